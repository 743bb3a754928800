/- Facts leant on. -/
import Derived.Test.YtfhhdgkhajkapaaGreatNTypes
import Derived.Test.YtfhhdgkhajkapaaGreatIdNl
set_option linter.all false
open List renaming take_of_length_le->Ka,map_cons->Kb,map_nil->Kc,append_assoc->Kd,take->Ke,take_length->Kf,set_cons_zero->Kg,set_cons_succ->Kh,take_zero->Ki,take_succ_eq_append_getElem->Kj,replicate->Kk,getElem_mem->Kl,map_append->Km,getElem_of_mem->Kn,length_take->Ko,drop_zero->Kp,getElem?_eq_getElem->Kq
open True renaming intro->Kr
open Int renaming natCast_zero->Ks
open Nat renaming lt_or_ge->Kt,reduceAdd->Ku,min_eq_left->Kv,sub_zero->Kw,zero_add->Kx
open Option renaming none->U,some->V
/- Scripts cut and handed to the document: what each of these functions answers. -/
namespace Go.Proofs.NO
open Go Go.Idl Go.Proofs Go.Proofs.Tryz
set_option maxHeartbeats 0
set_option maxRecDepth 100000
structure St where
 mode:Int
 waits:List Int
 picks:List (Int × List (Int × Int))
 takes:List (Int × Int × Int)
structure Nd where
 start:Int
 states:List St
abbrev eG(N:Int)(ls:List (Int × Int)):IV:= .agg [sci .i64 N,lII ls]
def eIII(p:Int × Int × Int):List PV:= [.sc (.int .i64 p.1), .sc (.int .i64 p.2.1), .sc (.int .i64 p.2.2)]
def ePk(p:Int × List (Int × Int)):List PV:= [.sc (.int .i64 p.1), .imm 2 (pr eII p.2)]
def eSt(s:St):List PV:= [.sc (.int .i64 s.mode), .imm 1 (pr eI s.waits), .imm 2 (pr ePk s.picks), .imm 3 (pr eIII s.takes)]
def eNd(n:Nd):List PV:= [.sc (.int .i64 n.start), .imm 4 (pr eSt n.states)]
abbrev lSt(s:St):IV:= .agg [sci .i64 s.mode,lI s.waits, .p (.imm 2 (pr ePk s.picks)), .p (.imm 3 (pr eIII s.takes))]
structure Sc where
 N:Int
 ls:List (Int × Int)
 T:List Nd
 fifo:Bool
 room:Nat
 acts:List (Int × Int × Int)
abbrev lApp(s:Sc):IV:= .agg [sci .i64 s.N,lII s.ls, .p (.imm 2 (pr eNd s.T)),scb s.fifo]
def cutP(p:Int × List (Int × Int)):Int × List (Int × Int):=(p.1,p.2.take 10)
def qes(s:St):St:=⟨s.mode,s.waits.take 10,(s.picks.take 10).map cutP,s.takes.take 30⟩
def mn10(n:Nat):(if(10:Int) < (n:Int) then(10:Int) else(n:Int))=((min n 10:Nat):Int):=by split<;>omega
def ir_snoc{α:Type}(f:α->List PV)(l:List α)(x:α):ir f (l++ [x])=ir f l++ [(f x).map .p]:=wA
def qsB{α:Type}(l:List α)(c:Nat):(Ke c l).length=min l.length c:=by
 rw[Ko];omega
def tk_min{α:Type}(l:List α)(c:Nat):Ke (min l.length c) l=Ke c l:=by
 rcases Nat.le_total l.length c with h | h
 .rw[Kv h,Kf,Ka h]
 .rw[Nat.min_eq_right h]
def tk_self{α:Type}(l:List α)(c:Nat):Ke (min l.length c) (Ke c l)=Ke c l:=by
 rw[<-qsB,Kf]
def tk_len{α:Type}(l:List α)(c:Nat):(Ke c l).length=min l.length c:=by
 rw[Ko];omega
def qnR(N:Int)(ls:List (Int × Int)):Pure prog 25 [eG N ls] (eG N ls):=by
 refine zAa func25 λhs=>?_;(repeat(first | ((refine zW ?_;try with_reducible exact Kr))))
def qnQ(N:Int)(ls:List (Int × Int)):Pure prog 75 [eG N ls] (eG N (ls.take 40)):=by
 refine zAb func75 λhs=>?_;by_cases h:40 < ls.length
 .have h':(40:Int) < ls.length:=wa
  exact zy h'
 .have h': ¬(40:Int) < ls.length:=wa
  have ht:ls.take 40=ls:=Ka wa;exact zy (zQ h' ht)
def qnU(s:St):Pure prog 164 [lSt s] (lSt (qes s)):=by
 obtain⟨mode,waits,picks,takes⟩:=s;refine zAb func164 λhs=>?_;(refine zM [1,2,300] ?_;refine zI [U,U,V [0,1,3,4,5,6,7,8,9,12],U,U,U,U,U,U,U,V [0,1,12],U,V [0,1,2,3,4,5,6,7,8,9,10,11],V []] ?_);refine zS (zQ @mn10 (zQ @Kw (zQ @Kp.{0} (zQ @tk_min @tk_len)))) ?_;refine walk_ownB 3 0 2 2 trivial rfl rfl rfl (.inr rfl) ?_;simp only[Kg,Kh,Ku];refine zM [1,2,3,4,300] ?_;refine qac 200 200 (λi:Nat × Nat × List (Int × List (Int × Int))=>i.1<=picks.length/\i.1<=10/\i.2.2=(picks.take i.1).map cutP)
  (λi=>⟨74, [(1, .ptr 0 0 0 0),(2, .ptr 1 0 0 0),(3, .ptr 3 0 0 0),(4,sci .i64 i.1)], [],5,
   [(4, .arr 2 i.2.1 (ir ePk i.2.2)),(3, .arr 4 0 [[sci .i64 mode,lI (waits.take 10), .ref 4 i.2.1 0 i.2.2.length, .p (.sc (.slice U 0 0))]]),
    (1, .arr 4 0 [[sci .i64 0, .p (.sc (.slice U 0 0)), .p (.sc (.slice U 0 0)), .p (.sc (.slice U 0 0))]]),
    (0, .arr 4 0 [[sci .i64 mode,lI waits, .p (.imm 2 (pr ePk picks)), .p (.imm 3 (pr eIII takes))]])]⟩) (λi=>10 - i.1) (0,0, []) [2] ?_ ?_ ?_
 .simp
 .exact zc (zQ @Ks @tk_self)
 .rintro⟨i,g,acc⟩ ⟨h1,h2,h3⟩;simp only at h1 h2 h3;have hal:acc.length=i:=wD
  refine zV ?_;by_cases hlt:i < picks.length/\i < 10
  .obtain⟨hl,h10⟩:=hlt;(try simp(maxSteps:=2000000) (disch:=omega) only[go_sem,simprocAttr,zD,zE,ePk]);(refine zM [1,2,3,4,5,300] ?_;refine zI [U,U,U,U,V [0,1,2,3,5,6,7,8,9,10,11],U,U,U,U,U,U,U,V [0,1,2,3],U,V [0,1],V [],U,V []] ?_);(try simp(maxSteps:=2000000) (disch:=omega) only[go_sem,simprocAttr,zD,zE,mn10,Kw,Kp,tk_min,tk_len,ePk]);refine⟨(i+1,g+1,acc++ [cutP picks[i]]), [6],⟨hl,h10,?_⟩,?_,?_⟩
   .simp only[h3];rw[Kj hl,Km,Kb,Kc]
   .simp only;omega
   .constructor<;>(try simp(maxSteps:=2000000) (disch:=omega) only[go_sem,simprocAttr,zD,zE,cutP,tk_self,ePk,ir_snoc,Kb,Kc])
  .have h10:picks.take i=picks.take 10:=by
    rcases Kt i 10 with h | h
    .rw[Ka wa,Ka wa]
    .rw[show i=10 by omega]
   rw[h10] at h3;rcases Kt i picks.length with hl | hl;all_goals
    refine zP ?_;refine walk_ownB 3 0 3 3 trivial rfl rfl rfl (.inr rfl) ?_;simp only[Kg,Kh,Ku];refine zM [1,2,3,6,300] ?_;refine qac 200 200 (λj:Nat × Nat=>j.1<=takes.length/\j.1<=30)
     (λj=>⟨74, [(1, .ptr 0 0 0 0),(2, .ptr 1 0 0 0),(3, .ptr 3 0 0 0),(6,sci .i64 j.1)], [],6,
      [(5, .arr 3 j.2 (ir eIII (takes.take j.1))),(3, .arr 4 0 [[sci .i64 mode,lI (waits.take 10), .p (.imm 2 (pr ePk acc)), .ref 5 j.2 0 j.1]]),
       (1, .arr 4 0 [[sci .i64 0, .p (.sc (.slice U 0 0)), .p (.sc (.slice U 0 0)), .p (.sc (.slice U 0 0))]]),
       (0, .arr 4 0 [[sci .i64 mode,lI waits, .p (.imm 2 (pr ePk picks)), .p (.imm 3 (pr eIII takes))]])]⟩) (λj=>30 - j.1) (0,0) [4] ?_ ?_ ?_
    .simp
    .exact zc (zQ @Ks @Ki.{0})
    .clear hl hlt hal h1 h2 h10;rintro⟨j,g2⟩ ⟨k1,k2⟩;simp only at k1 k2;have hjl:(takes.take j).length=j:=wm
     have hjj:(takes.take j).take j=takes.take j:=Ka wa;refine zV ?_;by_cases hlt:j < takes.length/\j < 30
     .obtain⟨hl,h30⟩:=hlt;(try simp(maxSteps:=2000000) (disch:=omega) only[go_sem,simprocAttr,zD,zE,eIII]);(refine zM [1,2,3,6,300] ?_;refine zI [U,U,U,U,U,U,U,V [0,1],V [],U,V []] ?_);(try simp(maxSteps:=2000000) (disch:=omega) only[go_sem,simprocAttr,zD,zE,eIII,hjl]);refine⟨(j+1,g2+1), [],⟨hl,h30⟩,?_,?_⟩
      .simp only;omega
      .constructor<;>(try simp(maxSteps:=2000000) (disch:=omega) only[go_sem,simprocAttr,zD,zE,eIII,hjj,Kj hl,ir_snoc,Kb,Kc])
     .have h30:takes.take j=takes.take 30:=by
       rcases Kt j 30 with h | h
       .rw[Ka wa,Ka wa]
       .rw[show j=30 by omega]
      rw[h30] at hjj;rcases Kt j takes.length with hl | hl;all_goals
       (try simp(maxSteps:=2000000) (disch:=omega) only[go_sem,simprocAttr,zD,zE,h30,h3,qes,hjj])
def qfh(n:Nd):Nd:=⟨n.start,(n.states.take 10).map qes⟩
def qnS(T:List Nd):Pure prog 76 [.p (.imm 2 (pr eNd T))] (.p (.imm 2 (pr eNd ((T.take 8).map qfh)))):=by
 refine zAb func76 λhs=>?_;refine walk_own 3 2 trivial rfl (.inl rfl) ?_;refine zM [0,3,4] ?_;refine qac 200 200 (λi:Nat × Nat × List Nd=>i.1<=T.length/\i.1<=8/\i.2.2=(T.take i.1).map qfh)
  (λi=>⟨57, [(0, .p (.imm 2 (pr eNd T))),(3, .ref 0 i.2.1 0 i.2.2.length),(4,sci .i64 i.1)], [],1, [(0, .arr 2 i.2.1 (ir eNd i.2.2))]⟩) (λi=>8 - i.1) (0,0, []) [] ?_ ?_ ?_
 .simp
 .exact zc @Ks
 .rintro⟨i,g,acc⟩ ⟨h1,h2,h3⟩;simp only at h1 h2 h3;have hal:acc.length=i:=wD
  refine zV ?_;by_cases hlt:i < T.length/\i < 8
  .obtain⟨hl,h8⟩:=hlt;(try simp(maxSteps:=2000000) (disch:=omega) only[go_sem,simprocAttr,zD,zE,eNd]);refine walk_ownB 1 0 1 4 trivial rfl rfl rfl (.inr rfl) ?_;simp only[Kg,Kh,Ku];refine zM [0,3,4,5,6] ?_;generalize hss:T[i].states=ss;generalize hst:T[i].start=st;refine qac 200 200 (λk:Nat × Nat × List St=>k.1<=ss.length/\k.1<=10/\k.2.2=(ss.take k.1).map qes)
    (λk=>⟨57, [(0, .p (.imm 2 (pr eNd T))),(3, .ref 0 g 0 acc.length),(4,sci .i64 i),(5, .ptr 1 0 0 0),(6,sci .i64 k.1)], [],3,
     [(1, .arr 2 0 [[sci .i64 st, .ref 2 k.2.1 0 k.2.2.length]]),(2, .arr 4 k.2.1 (ir eSt k.2.2)),(0, .arr 2 g (ir eNd acc))]⟩) (λk=>10 - k.1) (0,0, []) [] ?_ ?_ ?_
   .simp
   .exact zc @Ks
   .rintro⟨k,g2,al⟩ ⟨k1,k2,k3⟩;simp only at k1 k2 k3;have hkl:al.length=k:=by rw[k3];simp;omega
    refine zV ?_;by_cases hlt:k < ss.length/\k < 10
    .obtain⟨hk,h10⟩:=hlt;(try simp(maxSteps:=2000000) (disch:=omega) only[go_sem,simprocAttr,zD,zE,eNd,hss]);(refine zM [0,3,4,5,6] ?_;refine zI [U,U,U,U,U,U,U,U,U,U,V [0,1],V [0,1],V [],U,V []] ?_);(try simp(maxSteps:=2000000) (disch:=omega) only[go_sem,simprocAttr,zD,zE,eNd,eSt,hss]);refine zX (qnU ss[k]) ?_;refine⟨(k+1,g2+1,al++ [qes ss[k]]), [],⟨hk,h10,?_⟩,?_,?_⟩
     .simp only[k3];rw[Kj hk,Km,Kb,Kc]
     .simp only;omega
     .constructor<;>(try simp(maxSteps:=2000000) (disch:=omega) only[go_sem,simprocAttr,zD,zE,eSt,ir_snoc,Kb,Kc])
    .have h10:ss.take k=ss.take 10:=by
      rcases Kt k 10 with h | h
      .rw[Ka wa,Ka wa]
      .rw[show k=10 by omega]
     rw[h10] at k3;rcases Kt k ss.length with hk | hk;all_goals
      (try simp(maxSteps:=2000000) (disch:=omega) only[go_sem,simprocAttr,zD,zE,eNd,hss]);refine⟨(i+1,g+1,acc++ [qfh T[i]]), [2],⟨hl,h8,?_⟩,?_,?_⟩
      .simp only[h3];rw[Kj hl,Km,Kb,Kc]
      .simp only;omega
      .constructor<;>(try simp(maxSteps:=2000000) (disch:=omega) only[go_sem,simprocAttr,zD,zE,eNd,qfh,hss,hst,<-k3,ir_snoc,Kb,Kc])
  .have h10:T.take i=T.take 8:=by
    rcases Kt i 8 with h | h
    .rw[Ka wa,Ka wa]
    .rw[show i=8 by omega]
   rw[h10] at h3;rcases Kt i T.length with hl | hl;all_goals
    exact zy h3.symm
def OkSt(s:St):Prop:=s.waits.length<=10/\s.picks.length<=10/\(∀p∈s.picks,p.2.length<=10)/\s.takes.length<=30
def OkNd(n:Nd):Prop:=n.states.length<=10/\ ∀s∈n.states,OkSt s
def tkl{α:Type}{l:List α}{j:Nat}(h:j<=l.length):(l.take j).length=j:=wm
def tks{α:Type}{l:List α}{j:Nat}(h:j < l.length):l.take (j+1)=l.take j++ [l[j]]:=Kj h
def tkt{α:Type}{l:List α}{j:Nat}:(l.take j).take j=l.take j:=wT
def qku(s:St)(hk:OkSt s):Pure prog 165 [lSt s] (lSt s):=by
 obtain⟨mode,waits,picks,takes⟩:=s;obtain⟨hk1,hk2,hk3,hk4⟩:=hk;simp only at hk1 hk2 hk3 hk4;refine zAb func165 λhs=>?_;refine walk_ownB 2 0 2 2 trivial rfl rfl rfl (.inr rfl) ?_;simp only[Kg,Kh,Ku];refine zM [1,2,3,4,187] ?_;refine qac 200 200 (λi:Nat × Nat=>i.1<=picks.length)
  (λi=>⟨102, [(1, .ptr 0 0 0 0),(2, .ptr 1 0 0 0),(3, .ptr 2 0 0 0),(4,sci .i64 i.1)], [],4, [(3, .arr 2 i.2 (ir ePk (picks.take i.1))),(2, .arr 4 0 [[sci .i64 mode,lI waits, .ref 3 i.2 0 i.1, .p (.sc (.slice U 0 0))]]),(1, .arr 4 0 [[sci .i64 0, .p (.sc (.slice U 0 0)), .p (.sc (.slice U 0 0)), .p (.sc (.slice U 0 0))]]),(0, .arr 4 0 [[sci .i64 mode,lI waits, .p (.imm 2 (pr ePk picks)), .p (.imm 3 (pr eIII takes))]])]⟩) (λi=>picks.length - i.1) (0,0) [] ?_ ?_ ?_
 .simp
 .exact zc (zQ @Ks (zQ @Ka.{0} (zQ @Kd.{0} @Ki.{0})))
 .rintro⟨i,g⟩ hi;simp only at hi;refine zV ?_;by_cases li:i < picks.length
  .have hpl:=hk3 picks[i] (Kl li);have hpt:picks.take (i+1)=picks.take i++ [picks[i]]:=tks li;have htt:(picks.take i).length=i:=tkl hi;have hti:(picks.take i).take i=picks.take i:=tkt;generalize hp:picks[i]=p at *;obtain⟨nx,sends⟩:=p;simp only at hpl;(try simp(maxSteps:=2000000) (disch:=omega) only[go_sem,simprocAttr,zD,zE,ePk,hp]);refine walk_ownB 4 0 1 2 trivial rfl rfl rfl (.inr rfl) ?_;simp only[Kg,Kh,Ku];refine zM [1,2,3,4,5,6,187] ?_;refine qac 200 200 (λk:Nat × Nat=>k.1<=sends.length)
    (λk=>⟨102, [(1, .ptr 0 0 0 0),(2, .ptr 1 0 0 0),(3, .ptr 2 0 0 0),(4,sci .i64 i),(5, .ptr 4 0 0 0),(6,sci .i64 k.1)], [],6, [(5, .arr 2 k.2 (ir eII (sends.take k.1))),(4, .arr 2 0 [[sci .i64 nx, .ref 5 k.2 0 k.1]]),(3, .arr 2 g (ir ePk (picks.take i))),(2, .arr 4 0 [[sci .i64 mode,lI waits, .ref 3 g 0 i, .p (.sc (.slice U 0 0))]]),(1, .arr 4 0 [[sci .i64 0, .p (.sc (.slice U 0 0)), .p (.sc (.slice U 0 0)), .p (.sc (.slice U 0 0))]]),(0, .arr 4 0 [[sci .i64 mode,lI waits, .p (.imm 2 (pr ePk picks)), .p (.imm 3 (pr eIII takes))]])]⟩) (λk=>sends.length - k.1) (0,0) [] ?_ ?_ ?_
   .simp
   .exact zc (zQ @Ks (zQ @Ka.{0} (zQ @Kd.{0} @Ki.{0})))
   .rintro⟨k,e⟩ hk;simp only at hk;refine zV ?_;by_cases lk:k < sends.length
    .have hpt2:sends.take (k+1)=sends.take k++ [sends[k]]:=tks lk;have htt2:(sends.take k).length=k:=tkl hk;have hti2:(sends.take k).take k=sends.take k:=tkt;(try simp(maxSteps:=2000000) (disch:=omega) only[go_sem,simprocAttr,zD,zE,ePk,hp]);(refine zM [1,2,3,4,5,6,187] ?_;refine zI [U,U,U,U,U,U,U,U,U,U,U,U,U,U,U,U,U,U,U,U,U,U,U,V [0,1],V [],U,V []] ?_);(try simp(maxSteps:=2000000) (disch:=omega) only[go_sem,simprocAttr,zD,zE,ePk,hp,eII,htt2]);refine⟨(k+1,e+1), [],wd,?_,?_⟩
     ·(try simp only[]);omega
     .constructor<;>(try simp(maxSteps:=2000000) (disch:=omega) only[go_sem,simprocAttr,zD,zE,hpt2,hti2,eII,ir_snoc,Kb,Kc,Kd])
    .obtain rfl:k=sends.length:=wa
     (try simp(maxSteps:=2000000) (disch:=omega) only[go_sem,simprocAttr,zD,zE,ePk,hp,htt]);refine⟨(i+1,g+1), [5],wd,?_,?_⟩
     ·(try simp only[]);omega
     .constructor<;>(try simp(maxSteps:=2000000) (disch:=omega) only[go_sem,simprocAttr,zD,zE,hpt,hti,ePk,ir_snoc,Kb,Kc,Kd])
  .obtain rfl:i=picks.length:=wa
   refine zS @Kf.{0} ?_;refine walk_ownB 2 0 3 3 trivial rfl rfl rfl (.inr rfl) ?_;simp only[Kg,Kh,Ku];refine zM [1,2,3,7,187] ?_;refine qac 200 200 (λj:Nat × Nat=>j.1<=takes.length)
    (λj=>⟨102, [(1, .ptr 0 0 0 0),(2, .ptr 1 0 0 0),(3, .ptr 2 0 0 0),(7,sci .i64 j.1)], [],5, [(4, .arr 3 j.2 (ir eIII (takes.take j.1))),(2, .arr 4 0 [[sci .i64 mode,lI waits, .p (.imm 2 (pr ePk picks)), .ref 4 j.2 0 j.1]]),(1, .arr 4 0 [[sci .i64 0, .p (.sc (.slice U 0 0)), .p (.sc (.slice U 0 0)), .p (.sc (.slice U 0 0))]]),(0, .arr 4 0 [[sci .i64 mode,lI waits, .p (.imm 2 (pr ePk picks)), .p (.imm 3 (pr eIII takes))]])]⟩) (λj=>takes.length - j.1) (0,0) [3] ?_ ?_ ?_
   .simp
   .exact zc (zQ @Ks (zQ @Ka.{0} (zQ @Kd.{0} (zQ @Ki.{0} @Kf.{0}))))
   .rintro⟨j,e⟩ hj;simp only at hj;refine zV ?_;by_cases lj:j < takes.length
    .have hpt2:takes.take (j+1)=takes.take j++ [takes[j]]:=tks lj;have htt2:(takes.take j).length=j:=tkl hj;have hti2:(takes.take j).take j=takes.take j:=tkt;(try simp(maxSteps:=2000000) (disch:=omega) only[go_sem,simprocAttr,zD,zE,eIII]);(refine zM [1,2,3,7,187] ?_;refine zI [U,U,U,U,U,U,U,U,U,U,U,U,U,U,U,U,U,U,U,U,U,V [0,1],V [],U,V []] ?_);(try simp(maxSteps:=2000000) (disch:=omega) only[go_sem,simprocAttr,zD,zE,eIII,htt2]);refine⟨(j+1,e+1), [],wd,?_,?_⟩
     ·(try simp only[]);omega
     .constructor<;>(try simp(maxSteps:=2000000) (disch:=omega) only[go_sem,simprocAttr,zD,zE,hpt2,hti2,eIII,ir_snoc,Kb,Kc,Kd])
    .obtain rfl:j=takes.length:=wa
     exact zy @Kf.{0}
def qnT(T:List Nd)(hT:T.length<=8)(hk: ∀n∈T,OkNd n):Pure prog 77 [.p (.imm 2 (pr eNd T))] (.p (.imm 2 (pr eNd T))):=by
 refine zAb func77 λhs=>?_;refine walk_own 3 2 trivial rfl (.inl rfl) ?_;refine zM [0,3,4] ?_;refine qac 200 200 (λi:Nat × Nat=>i.1<=T.length)
  (λi=>⟨49, [(0, .p (.imm 2 (pr eNd T))),(3, .ref 0 i.2 0 i.1),(4,sci .i64 i.1)], [],1, [(0, .arr 2 i.2 (ir eNd (T.take i.1)))]⟩) (λi=>T.length - i.1) (0,0) [] ?_ ?_ ?_
 .simp
 .exact zc (zQ @Ks (zQ @Ka.{0} (zQ @Kd.{0} @Ki.{0})))
 .rintro⟨i,g⟩ hi;simp only at hi;refine zV ?_;by_cases li:i < T.length
  .have hnd:=hk T[i] (Kl li);have hpt:T.take (i+1)=T.take i++ [T[i]]:=tks li;have htt:(T.take i).length=i:=tkl hi;have hti:(T.take i).take i=T.take i:=tkt;generalize hp:T[i]=p at *;obtain⟨st,ss⟩:=p;obtain⟨hs1,hs2⟩:=hnd;simp only at hs1 hs2;(try simp(maxSteps:=2000000) (disch:=omega) only[go_sem,simprocAttr,zD,zE,eNd,hp]);refine walk_ownB 1 0 1 4 trivial rfl rfl rfl (.inr rfl) ?_;simp only[Kg,Kh,Ku];refine zM [0,3,4,5,6] ?_;refine qac 200 200 (λk:Nat × Nat=>k.1<=ss.length)
    (λk=>⟨49, [(0, .p (.imm 2 (pr eNd T))),(3, .ref 0 g 0 i),(4,sci .i64 i),(5, .ptr 1 0 0 0),(6,sci .i64 k.1)], [],3, [(2, .arr 4 k.2 (ir eSt (ss.take k.1))),(1, .arr 2 0 [[sci .i64 st, .ref 2 k.2 0 k.1]]),(0, .arr 2 g (ir eNd (T.take i)))]⟩) (λk=>ss.length - k.1) (0,0) [] ?_ ?_ ?_
   .simp
   .exact zc (zQ @Ks (zQ @Ka.{0} (zQ @Kd.{0} @Ki.{0})))
   .rintro⟨k,e⟩ hk;simp only at hk;refine zV ?_;by_cases lk:k < ss.length
    .have hst:=hs2 ss[k] (Kl lk);have hpt2:ss.take (k+1)=ss.take k++ [ss[k]]:=tks lk;have htt2:(ss.take k).length=k:=tkl hk;have hti2:(ss.take k).take k=ss.take k:=tkt;(try simp(maxSteps:=2000000) (disch:=omega) only[go_sem,simprocAttr,zD,zE,eNd,hp]);(refine zM [0,3,4,5,6] ?_;refine zI [U,U,U,U,U,U,U,U,U,U,V [0,1],V [0,1],V [],U,V []] ?_);(try simp(maxSteps:=2000000) (disch:=omega) only[go_sem,simprocAttr,zD,zE,eNd,hp,eSt,htt2]);(refine zF ?_;refine qaa (qku ss[k] hst) zB ?_);refine zS htt2 ?_;refine⟨(k+1,e+1), [],wd,?_,?_⟩
     ·(try simp only[]);omega
     .constructor<;>(try simp(maxSteps:=2000000) (disch:=omega) only[go_sem,simprocAttr,zD,zE,hpt2,hti2,Kv,eSt,ir_snoc,Kb,Kc,Kd])
    .obtain rfl:k=ss.length:=wa
     (try simp(maxSteps:=2000000) (disch:=omega) only[go_sem,simprocAttr,zD,zE,eNd,hp,htt]);refine⟨(i+1,g+1), [2],wd,?_,?_⟩
     ·(try simp only[]);omega
     .constructor<;>(try simp(maxSteps:=2000000) (disch:=omega) only[go_sem,simprocAttr,zD,zE,hpt,hti,eNd,Kf,ir_snoc,Kb,Kc,Kd])
  .obtain rfl:i=T.length:=wa
   exact zy @Kf.{0}
def cutSc(s:Sc):Sc:=⟨s.N,s.ls.take 40,(s.T.take 8).map qfh,s.fifo,s.room,s.acts.take 60⟩
def qnW(s:Sc):Pure prog 15 [lApp s] (lApp (cutSc s)):=by
 refine zAb func15 λhs=>?_;(refine zM [1,2,27] ?_;refine zI [U,U,V [3,4,6,7],U,U,V [6,7],U,U,U,V []] ?_);refine zV ?_;(refine zF ?_;refine qaa (qnQ _ _) zB ?_);refine zV ?_;(refine zF ?_;refine qaa (qnS _) zB ?_);(try simp only[go_sem,simprocAttr,cutSc])
def qnV(s:Sc)(hT:s.T.length<=8)(hk: ∀n∈s.T,OkNd n):Pure prog 16 [lApp s] (lApp s):=by
 refine zAb func16 λhs=>?_;(refine zM [1,2,33] ?_;refine zI [U,U,V [3,4,6,7],U,U,V [6,7],U,U,U,V []] ?_);refine zV ?_;(refine zF ?_;refine qaa (qnR _ _) zB ?_);refine zV ?_;(refine zF ?_;refine qaa (qnT _ hT hk) zB ?_);exact zT
end Go.Proofs.NO
namespace Go.GP
def qay(a b:Int):Nat->List (Int × Int)->Int
 | _, []=> -1
 | i,x::r=>if x.1=a/\x.2=b then i else qay a b (i+1) r
def outs(n:Int):Nat->List (Int × Int)->List Int
 | _, []=> []
 | i,x::r=>if x.1=n then(i:Int)::outs n (i+1) r else outs n (i+1) r
def ins(n:Int):Nat->List (Int × Int)->List Int
 | _, []=> []
 | i,x::r=>if x.2=n then(i:Int)::ins n (i+1) r else ins n (i+1) r
def qaE(ls:List (Int × Int))(l:Int):Int:=if h:0<=l/\l.toNat < ls.length then qay ls[l.toNat].2 ls[l.toNat].1 0 ls else -1
def qfn{a b}: ∀ {ls s},0<=qay a b s ls-> ∃j,∃c:j < ls.length,qay a b s ls=((s+j:Nat))/\ls[j]=(a,b)
 | [],s,h=>by simp[qay] at h
 | x::r,s,h=>by
   unfold qay at h ⊢;split
   .exact⟨0,wb,wb,wg⟩
   .rename_i q;rw[if_neg q] at h;obtain⟨j,c,e,d⟩:=qfn h;exact⟨j+1,wg,wa,wg⟩
def findL_neg{a b}: ∀ {ls s},qay a b s ls < 0->(a,b) ∉ ls
 | [],s,_=>by simp
 | x::r,s,h=>by
   unfold qay at h;split at h
   .omega
   .intro c;rcases List.mem_cons.1 c with e | e
    .grind
    .exact findL_neg h e
def findL_mem{a b s ls}:0<=qay a b s ls↔(a,b)∈ls:=by
 constructor
 .intro h;obtain⟨j,c,_,e⟩:=qfn h
  grind
 .intro h;rcases Int.lt_or_le (qay a b s ls) 0 with q | q
  .exact absurd h (findL_neg q)
  omega
def relax(k:Int)(out:List Int)(x:Int × Int):List Int:=
 if out.getD x.1.toNat 0=k/\out.getD x.2.toNat 0 < 0 then out.set x.2.toNat (k+1) else out
def qcp(ls:List (Int × Int)):Nat->Nat->List Int->List Int
 | 0,_,o=>o
 | f+1,k,o=>qcp ls f (k+1) (ls.foldl (relax k) o)
def qbq(N:Nat)(ls:List (Int × Int))(n:Nat):List Int:=qcp ls N 0 ((Kk N (-1)).set n 0)
def InR(N:Nat)(ls:List (Int × Int)):Prop:= ∀x∈ls,(0<=x.1/\x.1 < N)/\0<=x.2/\x.2 < N
def qgF{k out x}:(relax k out x).length=out.length:=by unfold relax;grind
def qeD{k}: ∀ {ls:List (Int × Int)} {out},(ls.foldl (relax k) out).length=out.length
 | [],out=>rfl
 | x::r,out=>by rw[List.foldl_cons,qeD,qgF]
def qfR{ls}: ∀ {f k out},(qcp ls f k out).length=out.length
 | 0,k,out=>rfl
 | f+1,k,out=>by rw[qcp,qfR,qeD]
def qcq{N n ls}:(qbq N ls n).length=N:=by unfold qbq;rw[qfR];simp
inductive Reach(ls:List (Int × Int))(r:Nat):Nat->Prop where
 | refl:Reach ls r r
 | step {a b:Int}:Reach ls r a.toNat->(a,b)∈ls->Reach ls r b.toNat
def Reach.trans{ls r m n}(h:Reach ls r m)(k:Reach ls m n):Reach ls r n:=by
 induction k with
 | refl=>omega
 | step _ a i=>exact .step i a
def Reach.back{ls r n}(a: ∀x∈ls,(x.2,x.1)∈ls)(h:Reach ls r n):Reach ls n r:=by
 induction h with
 | refl=>exact .refl
 | step _ b i=>exact Reach.trans (.step .refl (a _ b)) i
structure Lv(N:Nat)(ls:List (Int × Int))(r:Nat)(k:Int)(o:Nat->Int):Prop where
 lo: ∀v,v < N->o v= -1\/0<=o v/\o v<=k
 down: ∀v,v < N->1<=o v-> ∃u,u < N/\o u=o v - 1
 from_: ∀v,v < N->0<=o v->Reach ls r v
 start:o r=0
def at'(o:List Int)(v:Nat):Int:=o.getD v 0
def qcN{o v w c}(h:w < o.length):at' (o.set w c) v=if v=w then c else at' o v:=by
 unfold at' List.getD
 grind
def qjH{N:Nat}{ls:List (Int × Int)}{r:Nat}{k:Int}(z:0<=k): ∀(l:List (Int × Int)) (o:List Int),(∀x∈l,x∈ls/\((0<=x.1/\x.1 < N)/\0<=x.2/\x.2 < N))->o.length=N->Lv N ls r (k+1) (at' o)->
  Lv N ls r (k+1) (at' (l.foldl (relax k) o))/\(∀v,v < N->0<=at' o v->at' (l.foldl (relax k) o) v=at' o v)/\
  (∀v,v < N->at' o v < 0->at' (l.foldl (relax k) o) v < 0\/at' (l.foldl (relax k) o) v=k+1)/\ ∀x∈l,at' o x.1.toNat=k->0<=at' (l.foldl (relax k) o) x.2.toNat
 | [],o,_,_,h=>⟨h,λ_ _ _=>rfl,λ_ _ q=> .inl q,λx j=>by cases j⟩
 | x::l,o,j,A,h=>by
   obtain⟨B,⟨K,L⟩,M,O⟩:=j x (List.mem_cons_self ..);have b:x.2.toNat < o.length:=wa
   have n:Lv N ls r (k+1) (at' (relax k o x))/\(∀v,v < N->0<=at' o v->at' (relax k o x) v=at' o v)/\
     (∀v,v < N->at' o v < 0->at' (relax k o x) v < 0\/at' (relax k o x) v=k+1)/\(at' o x.1.toNat=k->0<=at' (relax k o x) x.2.toNat):=by
    unfold relax;split
    .rename_i q;obtain⟨t,w⟩:=q;change at' o x.1.toNat=k at t;change at' o x.2.toNat < 0 at w;refine⟨⟨λv c=>?_,λv c f=>?_,λv c d=>?_,?_⟩,λv c d=>?_,λv c d=>?_,λ_=>?_⟩
     .rw[qcN b];split
      .right;omega
      .exact h.lo v c
     .rw[qcN b] at f ⊢;by_cases e:v=x.2.toNat
      .rw[if_pos e];refine⟨x.1.toNat,wa,?_⟩;rw[qcN b,if_neg (by rintro g;rw[g] at t;omega)];omega
      .rw[if_neg e] at f ⊢;obtain⟨u,C,g⟩:=h.down v c f;refine⟨u,C,?_⟩;rw[qcN b,if_neg (by rintro D;rw[D] at g;omega)];exact g
     .rw[qcN b] at d;by_cases e:v=x.2.toNat
      .subst e;exact .step (a:=x.1) (h.from_ _ wa wa) B
      .rw[if_neg e] at d;exact h.from_ v c d
     .rw[qcN b,if_neg (by rintro e;rw[<-e] at w;have:=h.start;omega)];exact h.start
     .rw[qcN b,if_neg (by rintro e;rw[e] at d;omega)]
     .rw[qcN b];split
      .right;rfl
      .left;exact d
     .rw[qcN b,if_pos rfl];omega
    .rename_i q;refine⟨h,λ_ _ _=>rfl,λ_ _ q=> .inl q,λe=>?_⟩;rcases h.lo x.2.toNat wa with g | g
     .exact absurd ⟨e,by show at' o x.2.toNat < 0;omega⟩ q
     .exact g.1
   obtain⟨E,p,F,G⟩:=n;obtain⟨H,s,I,J⟩:=qjH z l (relax k o x) (λy i=>j y (List.mem_cons_of_mem _ i)) (by rw[qgF,A]) E
   grind
def qp9{N ls r}(c:InR N ls): ∀(f k:Nat) (o),o.length=N->Lv N ls r k (at' o)->(∀x∈ls,0<=at' o x.1.toNat->at' o x.1.toNat < k->0<=at' o x.2.toNat)->
  Lv N ls r (k+f:Nat) (at' (qcp ls f k o))/\ ∀x∈ls,0<=at' (qcp ls f k o) x.1.toNat->at' (qcp ls f k o) x.1.toNat < (k+f:Nat)->0<=at' (qcp ls f k o) x.2.toNat
 | 0,k,o,_,h,d=>⟨h,d⟩
 | f+1,k,o,e,h,d=>by
   have i:Lv N ls r ((k)+1) (at' o):=⟨λv j=>by rcases h.lo v j with q | q;exact .inl q;omega,h.down,h.from_,h.start⟩;obtain⟨l,g,m,n⟩:=qjH (k:=(k)) wa ls o (λx a=>⟨a,c x a⟩) e i;have:=qp9 c f (k+1) (ls.foldl (relax k) o) (by rw[qeD,e]) (by simpa using l) (λx a u p=>by
    obtain⟨⟨w,y⟩,z,A⟩:=c x a
    grind)
   rw[show k+(f+1)=k+1+f by omega];exact this
def qlW: ∀(m) (l:List Int),(∀i:Nat,i < m->(i:Int)∈l)->m<=l.length
 | 0,_,_=>Nat.zero_le _
 | m+1,l,h=>by
   have:=qlW m (l.erase (m)) λi b=>(List.mem_erase_of_ne wa).2 (h i wa)
   grind
def Lv.top{N ls r k o}(g:o.length=N)(h:Lv N ls r k (at' o)){v}(d:v < N):at' o v < N:=by
 have a: ∀u,u < N->at' o u∈o:=λu b=>by
  simp_all[at']
 have c: ∀j:Nat,(∃u,u < N/\at' o u=(j))-> ∀i:Nat,i<=j->(i:Int)∈o:=by
  intro j;induction j with
  | zero=>
    grind
  | succ j l=>
    rintro⟨u,b,e⟩ i f;rcases Kt i (j+1) with q | q
    .obtain⟨w,m,n⟩:=h.down u b wa;exact l ⟨w,m,wa⟩ i wa
    grind
 rcases h.lo v d with q | q
 .omega
 .have:=qlW ((at' o v).toNat+1) o λi f=>c (at' o v).toNat ⟨v,d,wa⟩ i wa
  omega
def qhi{N r ls}(i:InR N ls)(j:r < N){n}(l:n < N):0<=at' (qbq N ls r) n↔Reach ls r n:=by
 have f: ∀v,at' ((Kk N (-1)).set r 0) v=if v=r then 0 else at' (Kk N (-1)) v:=λv=>qcN wn
 have d: ∀v,v < N->at' (Kk N (-1)) v= -1:=λv c=>by simp[at',c]
 obtain⟨g,m⟩:=qp9 i N 0 ((Kk N (-1)).set r 0) wb (r:=r)
  ⟨λv c=>by grind,λv c h=>by grind,λv c h=>by
   rw[f] at h;split at h
   .rename_i e;rw[e];exact .refl
   simp_all,wn⟩
  (λx u h q=>by
   omega)
 change Lv N ls r _ (at' (qbq N ls r)) at g;change ∀x∈ls,0<=at' (qbq N ls r) x.1.toNat->at' (qbq N ls r) x.1.toNat < _->0<=at' (qbq N ls r) x.2.toNat at m;refine⟨g.from_ n l,λh=>?_⟩;have k: ∀v,Reach ls r v->v < N->0<=at' (qbq N ls r) v:=by
  intro v c;induction c with
  | refl=>rw[g.start];omega
  | step y d w=>
    rename_i a b;intro _;obtain⟨⟨o,p⟩,s,t⟩:=i (a,b) d;have:=w wa;refine m (a,b) d this ?_;have:=g.top qcq (v:=a.toNat) wa;simp_all
 simp_all
def qbC(N:Int)(ls:List (Int × Int))(i:Nat)(x:Int × Int):Bool:=
 !(decide (x.1 < 0)) && !(decide (N<=x.1)) && !(decide (x.2 < 0)) && !(decide (N<=x.2)) && !(x.1==x.2) && !(qay x.1 x.2 0 ls != (i:Int)) && !(decide (qay x.2 x.1 0 ls < 0))
def qbX(N:Int)(ls:List (Int × Int)):Nat->List (Int × Int)->Bool
 | _, []=>true
 | i,x::r=>qbC N ls i x && qbX N ls (i+1) r
def qbE(N:Int)(ls:List (Int × Int)):Bool:=
 decide (1<=N) && decide (N<=6) && decide (ls.length<=30) && qbX N ls 0 ls && (List.range N.toNat).all λf=>(qbq N.toNat ls f).all λd=>decide (0<=d)
def qeF{N ls}: ∀ {i r},qbX N ls i r=true↔ ∀(j x),r[j]? =V x->qbC N ls (i+j) x=true
 | i, []=>by simp[qbX]
 | i,y::r=>by
   simp only[qbX,Bool.and_eq_true,qeF (i:=i+1) (r:=r)];constructor
   .grind
   .intro h;refine⟨h 0 y rfl,λj x a=>?_⟩;have:=h (j+1) x wg
    grind
def qeK(N:Int)(ls:List (Int × Int))(i:Nat)(x:Int × Int):Prop:=
 (0<=x.1/\x.1 < N)/\(0<=x.2/\x.2 < N)/\x.1≠x.2/\qay x.1 x.2 0 ls=(i:Int)/\(x.2,x.1)∈ls
def qih{N ls i x}:qbC N ls i x=true↔qeK N ls i x:=by
 have:=findL_mem (a:=x.2) (b:=x.1) (s:=0) (ls:=ls)
 grind[qbC,qeK]
def qd8(N:Int)(ls:List (Int × Int)):Prop:=
 1<=N/\N<=6/\ls.length<=30/\(∀(i:Nat) (x:Int × Int),ls[i]? =V x->qeK N ls i x)/\ ∀v:Nat,v < N.toNat->Reach ls 0 v
def qd8.inR{N ls}(h: ∀(i x),ls[i]? =V x->qeK N ls i x):InR N.toNat ls:=by
 intro x e;obtain⟨j,f,rfl⟩:=Kn e;have:=h j _ (Kq f);obtain⟨⟨a,b⟩,⟨c,d⟩,_⟩:=this;omega
def qiw{N ls}:qbE N ls=true↔qd8 N ls:=by
 have q:qbX N ls 0 ls=true↔ ∀(i) (x),ls[i]? =V x->qeK N ls i x:=by
  rw[qeF];constructor
  .intro h i x c;have:=h i x c;rw[Kx] at this;exact qih.1 this
  .intro h i x c;rw[Kx];exact qih.2 (h i x c)
 simp only[qbE,Bool.and_eq_true,decide_eq_true_eq,q,List.all_eq_true,List.mem_range];constructor
 .rintro⟨⟨⟨⟨k,l⟩,m⟩,b⟩,e⟩;refine⟨k,l,m,b,λv g=>?_⟩;have o:=qd8.inR b;refine(qhi o wa g).1 ?_;have a:=qcq (N:=N.toNat) (n:=0) (ls:=ls);have:=e 0 wa _ (Kl (show v < (qbq N.toNat ls 0).length by omega));simpa[at',a,g] using this
 .rintro⟨k,l,m,b,e⟩;refine⟨⟨⟨⟨k,l⟩,m⟩,b⟩,λf p d r=>?_⟩;have o:=qd8.inR b;have s: ∀x∈ls,(x.2,x.1)∈ls:=λx c=>by
   obtain⟨j,t,rfl⟩:=Kn c;exact(b j _ (Kq t)).2.2.2.2
  obtain⟨v,g,rfl⟩:=Kn r;have a:=qcq (N:=N.toNat) (n:=f) (ls:=ls);have:=(qhi o p (n:=v) wa).2 (((e f p).back s).trans (e v wa));simpa[at',g] using this
end Go.GP
