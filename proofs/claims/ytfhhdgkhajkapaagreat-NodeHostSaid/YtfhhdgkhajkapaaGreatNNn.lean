/- Facts leant on. -/
import Derived.Test.YtfhhdgkhajkapaaGreatNMd
import Derived.Test.YtfhhdgkhajkapaaGreatNMe
import Derived.Test.YtfhhdgkhajkapaaGreatNPC
import Derived.Test.YtfhhdgkhajkapaaGreatNNi
import Derived.Test.YtfhhdgkhajkapaaGreatNNl
import Derived.Test.YtfhhdgkhajkapaaGreatNPK
set_option linter.all false
open True renaming intro->Ka
open List renaming replicate->Kb,take_of_length_le->Kc
open Int renaming natCast_one->Kd,natCast_zero->Ke
open Option renaming none->U
/- A table's answers: the mode, what a letter leads to. -/
namespace Go.Proofs.NO
open Go Go.Idl Go.Proofs Go.GP Go.Proofs.Tryz
set_option maxHeartbeats 0
set_option maxRecDepth 100000
def qqq(s:Sc)(h:Hs)(x:Int)(hl:s.ls.length<=1000000)(hi:h.inn.length=(ins h.node 0 s.ls).length):Pure prog 31 [lApp s,lHs h,sci .i64 x]
  (sci .i64 (lenAt h.inn (indexL x 0 (ins h.node 0 s.ls)))):=by
 obtain⟨N,ls,T,ff,room,acts⟩:=s;obtain⟨node,state,steps,inn,out⟩:=h;simp only at hl hi;refine zAb func31 λhs=>?_;(refine zG ?_;refine qaa (qdl N node ls hl) zB ?_);refine zV ?_;(refine zG ?_;refine qaa (qb3 _ _) zB ?_;refine zV ?_);rcases indexL_at x (ins node 0 ls) with e | ⟨j,e,hj, -⟩
 .have ez:=qjw inn;exact zy (zQ e ez)
 .have lj:j < inn.length:=wa
  have ez:=qjx lj;(try simp(maxSteps:=2000000) (disch:=omega) only[go_sem,simprocAttr,zD,zE,e,ez,eMs])
def qo3(s:Sc)(h:Hs)(x:Int)(hl:s.ls.length<=1000000)(hi:h.out.length=(outs h.node 0 s.ls).length):Pure prog 30 [lApp s,lHs h,sci .i64 x]
  (sci .i64 (lenAt h.out (indexL x 0 (outs h.node 0 s.ls)))):=by
 obtain⟨N,ls,T,ff,room,acts⟩:=s;obtain⟨node,state,steps,inn,out⟩:=h;simp only at hl hi;refine zAb func30 λhs=>?_;(refine zG ?_;refine qaa (qcU N node ls hl) zB ?_);refine zV ?_;(refine zG ?_;refine qaa (qb3 _ _) zB ?_;refine zV ?_);rcases indexL_at x (outs node 0 ls) with e | ⟨j,e,hj, -⟩
 .have ez:=qjw out;exact zy (zQ e ez)
 .have lj:j < out.length:=wa
  have ez:=qjx lj;(try simp(maxSteps:=2000000) (disch:=omega) only[go_sem,simprocAttr,zD,zE,e,ez,eLs])
def qoa(T:List Nd)(n k:Nat)(x:Nd)(s:St)(hx:T[n]? =some x)(hq:x.states[k]? =some s)(hw:s.waits.length<=1000000):
  Pure prog 262 [.p (.imm 2 (pr eNd T)),sci .i64 n,sci .i64 k] (lI s.waits):=by
 refine zAb func262 λhs=>?_;refine zY (qd3 T n k x s hx hq) ?_;(refine zG ?_;refine qaa (CloneI_spec s.waits hw) zB ?_;exact zT)
abbrev zri:List IV:= [sci .i64 0]
@[go_sem] def qs2{n k:Nat}:qbj n (Kb k zri)=True:=by
  refine eq_true ((qcf n _).2 λrow h=>?_);rw[List.eq_of_mem_replicate h];exact qhW n [.sc (.int .i64 0)]
@[go_sem] def rnRw_zri{ρ:Nat->Nat}{k:Nat}:rnRw ρ (Kb k zri)=Kb k zri:=by
  induction k with
  | zero=>rfl
  | succ k ih=>rw[List.replicate_succ];show rnms ρ zri::rnRw ρ (Kb k zri)=_;rw[ih];rfl
def qnP(n:Nat)(h1:1<=n)(hn:n<=1000):PG prog 305 [.p (.sc (.slice U 0 0)),sci .i64 (n:Int)] [] 1 (.ref 0 0 0 0) [(0, .arr 1 0 (Kb n zri))]:=by
 refine zAh func305 0 λhs=>?_;refine zP ?_;refine⟨[0],⟨rfl,wU⟩,rfl,?_⟩;(try simp(maxSteps:=2000000) only[go_sem,simprocAttr,List.getD_cons_zero,zri])
abbrev lPI(a b:List Int):IV:= .p (.imm 1 [[.imm 1 (pr eI a)], [.imm 1 (pr eI b)]])
def sumI(a b:List Int)(i:Nat):Nat:=if i=0 then 0 else if i=1 then a.length else a.length+b.length
def qkq(a b:List Int)(hn:a.length+b.length<=1000)(h1:1<=a.length+b.length):
  Pure prog 263 [lPI a b] (lI (a++b)):=by
 refine zAb func263 λhs=>?_;refine walk_loop 200 200 (λi:Nat=>i<=2) (λi=>⟨36, [(0,lPI a b),(3,sci .i64 (sumI a b i:Int)),(9,lPI a b),(10,sci .i64 2),(11,sci .i64 (i:Int))], [],0, []⟩) (λi=>2 - i) 0 wa ?_ ?_
 .constructor<;>(try simp(maxSteps:=2000000) (disch:=omega) only[go_sem,simprocAttr,zD,zE,sumI,Ke])
 .intro i hi;refine zV ?_;have h3:i=0\/i=1\/i=2:=wa
  rcases h3 with rfl | rfl | rfl
  ·(try simp(maxSteps:=2000000) (disch:=omega) only[go_sem,simprocAttr,zD,zE,sumI,Ke,Kd]);have c1: ¬((a.length:Int) < 0):=wa
   refine zS c1 ?_;refine⟨1,wa,wa,?_⟩;constructor<;>(try simp(maxSteps:=2000000) (disch:=omega) only[go_sem,simprocAttr,zD,zE,sumI,Kd])
  ·(try simp(maxSteps:=2000000) (disch:=omega) only[go_sem,simprocAttr,zD,zE,sumI,Kd]);have c1: ¬((a.length:Int)+(b.length:Int) < 0):=wa
   refine zS c1 ?_;refine⟨2,wa,wa,?_⟩;constructor<;>(try simp(maxSteps:=2000000) (disch:=omega) only[go_sem,simprocAttr,zD,zE,sumI,Int.natCast_add])
  .have e2:((2:Nat):Int)=2:=rfl;(try simp(maxSteps:=2000000) (disch:=omega) only[go_sem,simprocAttr,zD,zE,sumI,e2]);(refine at_gr 200 ?_;refine zW ?_;refine callG_of [] (qnP (a.length+b.length) h1 hn) zU ?_);refine zP ?_;refine zM [6,25,26,27] ?_;refine walk_loop 200 200 (λi:Nat=>i<=2) (λi=>⟨36, [(6, .ref 0 i 0 (sumI a b i)),(25,lPI a b),(26,sci .i64 2),(27,sci .i64 (i:Int))], [],1,
    [(0, .arr 1 i (if i=0 then Kb (a.length+b.length) zri else if i=1 then ir eI a else ir eI (a++b)))]⟩) (λi=>2 - i) 0 wa ?_ ?_
   .constructor<;>(try simp(maxSteps:=2000000) (disch:=omega) only[go_sem,simprocAttr,zD,zE,sumI,Ke,zri])
   .clear hi;intro i hi;refine zV ?_;have h3:i=0\/i=1\/i=2:=wa
    rcases h3 with rfl | rfl | rfl
    ·(try simp(maxSteps:=2000000) (disch:=omega) only[go_sem,simprocAttr,zD,zE,sumI,Ke,Kd]);refine⟨1,wa,wa,?_⟩;constructor<;>(try simp(maxSteps:=2000000) (disch:=omega) only[go_sem,simprocAttr,zD,zE,sumI,Kd])
    ·(try simp(maxSteps:=2000000) (disch:=omega) only[go_sem,simprocAttr,zD,zE,sumI,Kd]);refine⟨2,wa,wa,?_⟩;have e3:ir eI a++ir eI b=ir eI (a++b):=wA
     constructor<;>(try simp(maxSteps:=2000000) (disch:=omega) only[go_sem,simprocAttr,zD,zE,sumI,e3])
    .have e4:(a++b).take (a.length+b.length)=a++b:=Kc wb;(try simp(maxSteps:=2000000) (disch:=omega) only[go_sem,simprocAttr,zD,zE,sumI,e2,e4])
abbrev lSe(N:Int)(ls:List (Int × Int))(T:List Nd)(ff:Bool)(h:Hs):IV:= .agg [sci .i64 h.node,sci .i64 h.state,sci .i64 h.steps,lMs h.inn,lLs h.out,sci .i64 N,lII ls, .p (.imm 2 (pr eNd T)),scb ff]
def qlb(N:Int)(ls:List (Int × Int))(T:List Nd)(ff:Bool)(h:Hs)(n j:Nat)(nd:Nd)(st:St)(hn:h.node=n)(hj:h.state=j)(hx:T[n]? =some nd)(hq:nd.states[j]? =some st):
  Pure prog 206 [lSe N ls T ff h] (scb (st.mode==2)):=by
 obtain⟨node,state,steps,inn,out⟩:=h;simp only at hn hj;subst hn hj;refine zAb func206 λhs=>?_;(refine zG ?_;refine qaa (qi9 T n j nd st hx hq) zB ?_;exact zT)
def qpL(l:List Int)(i:Nat):Pure prog 300 [lI l,sci .i64 i] (sci .i64 ((l[i]?).getD 0)):=by
 by_cases c:i < l.length
 .have e:=List.getElem?_eq_getElem c;rw[e];refine zAa func300 λhs=>?_;(try simp(disch:=omega) only[go_sem,simprocAttr,zD,zE,eI,Option.getD_some])
 .have e:=List.getElem?_eq_none (show l.length<=i by omega);rw[e];refine zAa func300 λhs=>?_;exact zy @Option.getD_none.{0}
def qoT(N:Int)(ls:List (Int × Int))(T:List Nd)(ff:Bool)(h:Hs)(n j:Nat)(nd:Nd)(st:St)(hn:h.node=n)(hj:h.state=j)(hx:T[n]? =some nd)(hq:nd.states[j]? =some st)(hl:ls.length<=1000000)
  (hw:st.waits.length<=1000) (hil:h.inn.length=(ins h.node 0 ls).length) (init num:Int) (path:List Int) (hp:path.length<=100):
  Pure prog 207 [lSe N ls T ff h,sci .i64 init,sci .i64 num,lI path] (lOus (sendsP ls st h init num path)):=by
 have hWa:=qoa T n j nd st hx hq wa;obtain⟨S,hS⟩: ∃S,S=sendsP ls st h init num path:=⟨_,rfl⟩;have hSl:S.length=st.waits.length:=by rw[hS];simp[sendsP]
 have hSs: ∀(i:Nat) (li:i < st.waits.length),S.take (i+1)=S.take i++ [⟨qay h.node st.waits[i] 0 ls,⟨6,0,(0,0), [],init,num,lenAt h.inn (indexL (qay st.waits[i] h.node 0 ls) 0 (ins h.node 0 ls)),path++ [h.node]⟩⟩]:=λi li=>by
  rw[hS,sendsP,List.take_succ_eq_append_getElem (by rw[List.length_map];exact li),List.getElem_map]
 rw[<-hS];clear hS;have hC:Pure prog 263 [.p (.imm 1 [[.imm 1 (pr eI path)], [.imm 1 [[.sc (.int .i64 h.node)]]]])] (lI (path++ [h.node])):=qkq path [h.node] wm wb;have hG:=λy=>qqq ⟨N,ls,T,ff,0, []⟩ h y hl hil
 obtain⟨node,state,steps,inn,out⟩:=h;simp only at hn hj hG hSs hil hC;subst hn hj;generalize st.waits=Wl at *;refine zAb func207 λhs=>?_;refine zY hWa ?_;refine walk_own 9 10 trivial rfl (.inr rfl) ?_;refine zM [1,2,3,4,9,23,24,25] ?_;refine qac 200 200 (λi:Nat × Nat=>i.1<=Wl.length)
  (λi=>⟨68, [(1,sci .i64 init),(2,sci .i64 num),(3,lI path),(4, .ptr 0 0 0 0),(9, .ref 1 i.2 0 i.1),(23,lI Wl),(24,sci .i64 Wl.length),(25,sci .i64 i.1)], [],2, [(1, .arr 10 i.2 (ir eOu (S.take i.1))),(0, .arr 9 0 [[sci .i64 n,sci .i64 j,sci .i64 steps,lMs inn,lLs out,sci .i64 N,lII ls, .p (.imm 2 (pr eNd T)),scb ff]])]⟩) (λi=>Wl.length - i.1) (0,0) [] ?_ ?_ ?_
 .simp
 .exact zc (zQ @Ke (zQ @Kc.{0} (zQ @List.append_assoc.{0} @List.take_zero.{0})))
 .rintro⟨i,g⟩ hi;simp only at hi;refine zV ?_;by_cases li:i < Wl.length
  .have hsn:=hSs i li;have htt:(S.take i).length=i:=by rw[List.length_take];omega
   have hti:(S.take i).take i=S.take i:=wT
   have hmm:min i (min i S.length)=i:=wa
   have hmn:min i S.length=i:=wa
   have hGw:=hG (qay Wl[i] n 0 ls);(try simp(maxSteps:=2000000) (disch:=omega) only[go_sem,simprocAttr,zD,zE,eI]);generalize hw:Wl[i]=w at *;refine zP ?_;refine zN [1,2,3,4,9,11,23,24,25] [U,U,U,U,U,U,U,U,U,U,U,some [0,1,2,3],some [],U] ?_;refine zX (qdF N w n ls hl) ?_;refine zX hGw ?_;generalize lenAt inn (indexL (qay w n 0 ls) 0 (ins n 0 ls))=got at *;refine qbf 200 [2] ⟨68, [(1,sci .i64 init),(2,sci .i64 num),(3,lI path),(4, .ptr 0 0 0 0),(9, .ref 1 g 0 i),(11,sci .i64 w),(12,sci .i64 got),(23,lI Wl),(24,sci .i64 Wl.length),(25,sci .i64 i),(42,sci .i64 init),(43,sci .i64 num),(44,sci .i64 got),(50, .ref 3 0 0 2)], [],4, [(3, .arr 1 0 [[lI path], [.p (.imm 1 [[.sc (.int .i64 n)]])]]),(1, .arr 10 g (ir eOu (S.take i))),(0, .arr 9 0 [[sci .i64 n,sci .i64 j,sci .i64 steps,lMs inn,lLs out,sci .i64 N,lII ls, .p (.imm 2 (pr eNd T)),scb ff]])]⟩ trivial ?_ ?_
   .constructor<;>exact zU
   refine zV ?_;refine qbf 200 [3] ⟨68, [(1,sci .i64 init),(2,sci .i64 num),(3,lI path),(4, .ptr 0 0 0 0),(9, .ref 1 g 0 i),(11,sci .i64 w),(12,sci .i64 got),(23,lI Wl),(24,sci .i64 Wl.length),(25,sci .i64 i),(42,sci .i64 init),(43,sci .i64 num),(44,sci .i64 got),(50, .p (.imm 1 [[.imm 1 (pr eI path)], [.imm 1 [[.sc (.int .i64 n)]]]]))], [],4, [(1, .arr 10 g (ir eOu (S.take i))),(0, .arr 9 0 [[sci .i64 n,sci .i64 j,sci .i64 steps,lMs inn,lLs out,sci .i64 N,lII ls, .p (.imm 2 (pr eNd T)),scb ff]])]⟩ trivial ?_ ?_
   .constructor<;>exact zU
   refine zV ?_;refine zY hC ?_;refine zN [1,2,3,4,9,11,13,23,24,25] [U,U,U,U,U,U,U,U,some [0,9],U,U,some [0],some [],U] ?_;refine zX (qdF N n w ls hl) ?_;refine⟨(i+1,g+1), [],li,wc,?_⟩;constructor
   case blks=>
    (try simp(maxSteps:=2000000) (disch:=omega) only[go_sem,simprocAttr,zD,zE,hmn,hmm,hti,hsn,ir_snoc,eOu])
   all_goals(try simp(maxSteps:=2000000) (disch:=omega) only[go_sem,simprocAttr,zD,zE,hmn,hmm])
  .obtain rfl:i=Wl.length:=wa
   rw[Kc (Nat.le_of_eq hSl)];exact zy (Kc (Nat.le_of_eq hSl))
end Go.Proofs.NO
