/- Facts leant on. -/
import Derived.Test.YtfhhdgkhajkapaaGreatNGa
import Derived.Test.YtfhhdgkhajkapaaGreatNPC
set_option linter.all false
open Int renaming natCast_zero->Ka,eq_ofNat_of_zero_le->Kb,natCast_one->Kc
open True renaming intro->Kd
open List renaming getElem?_eq_getElem->Ke,replicate->Kf,getElem_of_mem->Kg,getElem_mem->Kh,take_of_length_le->Ki,getD->Kj,drop_length->Kk,all_eq_false->Kl,all_eq_true->Km
open Option renaming none->U,some->V
open Bool renaming true->Y,false->Z
/- The document on graphs: how far, which may be. -/
namespace Go.Proofs.NO
open Go Go.Idl Go.Proofs Go.GP Go.Proofs.Tryz
set_option maxHeartbeats 0
set_option maxRecDepth 100000
def qlE{N:Int}{ls:List (Int × Int)}{i:Nat}{x:Int × Int}(h:qbC N ls i x=Y):(0<=x.1/\x.1 < N)/\0<=x.2/\x.2 < N:=by
 simp only[qbC,Bool.and_eq_true,Bool.not_eq_true',decide_eq_false_iff_not] at h;omega
def qj3{N:Nat}{ls:List (Int × Int)}(h:qbX N ls 0 ls=Y):InR N ls:=by
 intro x hx;obtain⟨j,hj,rfl⟩:=Kg hx;have:=qeF.1 h j _ (Ke hj);exact qlE this
def qmE(N n:Nat)(ls:List (Int × Int))(hr:InR N ls)(hl:ls.length<=1000000)(hN:N<=1000000)(hn:n < N):Pure prog 166 [eG N ls,sci .i64 n] (lI (qbq N ls n)):=by
 have hn0: ¬((n:Int) < 0):=wa
 refine zAa func166 λhs=>?_;refine zS hn0 ?_;refine walk_own 5 1 trivial rfl (.inl rfl) ?_;refine walk_loop 200 200 (λi:Nat × Nat=>i.1<=N)
  (λi=>⟨77, [(1,sci .i64 n),(2, .ptr 0 0 0 0),(5, .ref 1 i.2 0 i.1),(6,sci .i64 i.1)], [],2,
   [(1, .arr 1 i.2 (ir eI (Kf i.1 (-1)))),(0, .arr 2 0 [[sci .i64 N,lII ls]])]⟩) (λi=>N - i.1) (0,0) ?_ ?_ ?_
 .simp
 .exact zc @Ka
 .rintro⟨i,g⟩ h1;simp only at h1;refine zV ?_;by_cases hi:i < N
  .refine zP ?_;have e:List.take i (Kf i (-1:Int))++ [-1]= -1::Kf i (-1):=by
    rw[Ki wb,<-List.replicate_succ',List.replicate_succ]
   refine⟨(i+1,g+1),hi,wc,?_⟩;exact zc e
  .obtain rfl:i=N:=wa
   refine zP ?_;have e0:(ir eI (Kf i (-1)))[n]? =V [.p (.sc (.int .i64 (-1)))]:=by
    rw[qag (by simpa using hn)];simp[eI]
   refine zS e0 ?_;refine walk_loop 200 200 (λk:Nat × List Int=>k.1<=i/\k.2.length=i/\qcp ls (i - k.1) k.1 k.2=qbq i ls n)
    (λk=>⟨77, [(2, .ptr 0 0 0 0),(5, .ref 1 g 0 i),(7,sci .i64 k.1)], [],2,
     [(1, .arr 1 g (ir eI k.2)),(0, .arr 2 0 [[sci .i64 i,lII ls]])]⟩) (λk=>i - k.1) (0,(Kf i (-1)).set n 0) ?_ ?_ ?_
   .simp[qbq]
   .exact zc @Ka
   .rintro⟨k,out⟩ ⟨h2,h3,h4⟩;simp only at h2 h3 h4;refine zV ?_;by_cases hk:k < i
    .refine zP ?_;rw[show i - k=(i - (k+1))+1 by omega,qcp] at h4;refine walk_loop 200 200 (λj:Nat × List Int=>j.1<=ls.length/\j.2.length=i/\(ls.drop j.1).foldl (relax k) j.2=ls.foldl (relax k) out)
      (λj=>⟨77, [(2, .ptr 0 0 0 0),(5, .ref 1 g 0 i),(7,sci .i64 k),(8,sci .i64 j.1)], [],2,
       [(1, .arr 1 g (ir eI j.2)),(0, .arr 2 0 [[sci .i64 i,lII ls]])]⟩) (λj=>ls.length - j.1) (0,out) ?_ ?_ ?_
     .simp[h3]
     .exact zc @Ka
     .rintro⟨j,o⟩ ⟨h5,h6,h7⟩;simp only at h5 h6 h7;refine zV ?_;by_cases hj:j < ls.length
      .rw[qaU hj,List.foldl_cons] at h7;obtain⟨⟨a0,a1⟩,b0,b1⟩:=hr ls[j] (Kh hj);generalize hx:ls[j]=x at *;obtain⟨xa,xb⟩:=x;simp only at a0 a1 b0 b1;obtain⟨a,rfl⟩:=Kb a0;obtain⟨b,rfl⟩:=Kb b0;have ha:a < o.length:=wa
       have hb:b < o.length:=wa
       refine zP ?_;(refine zM [2,5,7,8] ?_;refine zI [U,U,U,U,U,U,U,U,U,U,U,U,U,U] ?_);(try simp(disch:=omega) only[go_sem,simprocAttr,zD,zE,hx,eII]);(try simp(disch:=omega) only[go_sem,simprocAttr,zD,zE,eI]);have ga:o.getD a 0=o[a]:=by simp[Kj,ha]
       have gb:o.getD b 0=o[b]:=by simp[Kj,hb]
       simp only[relax,Int.toNat_natCast,ga,gb] at h7;cases hc:o[a]==(k:Int)
       .have hc: ¬o[a]=(k:Int):=wX
        rw[if_neg (λh=>hc h.1)] at h7;refine zP ?_;refine⟨(j+1,o),⟨hj,h6,h7⟩,wc,?_⟩;constructor<;>exact zU
       .have hc:o[a]=(k:Int):=wX
        (try simp(disch:=omega) only[go_sem,simprocAttr,zD,zE,eI]);by_cases hd:o[b] < 0
        .rw[if_pos ⟨hc,hd⟩] at h7;(try simp(disch:=omega) only[go_sem,simprocAttr,zD,zE,eI]);refine⟨(j+1,o.set b (k+1)),⟨hj,by simpa using h6,h7⟩,wc,?_⟩;constructor<;>(try simp(disch:=omega) only[go_sem,simprocAttr,zD,zE,eI])
        .rw[if_neg (λh=>hd h.2)] at h7;refine zP ?_;refine⟨(j+1,o),⟨hj,h6,h7⟩,wc,?_⟩;constructor<;>exact zU
      .obtain rfl:j=ls.length:=wa
       rw[Kk,List.foldl_nil] at h7;refine zP ?_;refine⟨(k+1,o),⟨hk,h6,by rw[h7];exact h4⟩,wc,?_⟩;constructor<;>exact zU
    .obtain rfl:k=i:=wa
     rw[Nat.sub_self,qcp] at h4;subst h4;have:=qcq (N:=k) (n:=n) (ls:=ls);refine zP ?_;have e:(qbq k ls n).take k=qbq k ls n:=Ki wa;exact zy e
def qkT(N:Int)(ls:List (Int × Int)):Pure prog 78 [eG N ls] (scb (qbE N ls)):=by
 refine zAb func78 λhs=>?_;by_cases hN1:N < 1
 .have e:qbE N ls=Z:=by simp[qbE];omega
  exact zy e
 by_cases hN6:N > 6
 .have e:qbE N ls=Z:=by simp[qbE];omega
  have hN6':(6:Int) < N:=hN6;exact zy e
 by_cases hL:ls.length > 30
 .have e:qbE N ls=Z:=by simp[qbE];omega
  have hL':(30:Int) < ls.length:=wa
  have hN6': ¬(6:Int) < N:=wa
  exact zy e
 have hN6': ¬(6:Int) < N:=wa
 have hL': ¬(30:Int) < ls.length:=wa
 obtain⟨N,rfl⟩:=Kb (show 0<=N by omega);refine zP ?_;refine walk_loop 200 200 (λi:Nat=>i<=ls.length/\qbX N ls i (ls.drop i)=qbX N ls 0 ls)
  (λi=>⟨100, [(1, .ptr 0 0 0 0),(3,sci .i64 i)], [],1, [(0, .arr 2 0 [[sci .i64 N,lII ls]])]⟩) (λi=>ls.length - i) 0 ?_ ?_ ?_
 .simp
 .exact zc @Ka
 .rintro i ⟨h1,h2⟩;refine zV ?_;by_cases hi:i < ls.length
  .rw[qaU hi,qbX] at h2;have fail:qbC N ls i ls[i]=Z->qbE N ls=Z:=by
    intro h;rw[h,Bool.false_and] at h2;simp[qbE,<-h2]
   generalize hx:ls[i]=x at *;obtain⟨a,b⟩:=x;refine zP ?_;(refine zM [1,3] ?_;refine zI [U,U,U,U,U,U,U,U,U,U,U,U,U,U] ?_);(try simp(disch:=omega) only[go_sem,simprocAttr,zD,zE,hx,eII]);(try simp(disch:=omega) only[go_sem,simprocAttr,zD,zE,eII]);by_cases c1:a < 0
   .exact zy (fail (by simp[qbC,c1]))
   by_cases c2:(N:Int)<=a
   .exact zy (fail (by simp[qbC,c2]))
   refine zP ?_;by_cases c3:b < 0
   .exact zy (fail (by simp[qbC,c3]))
   refine zP ?_;by_cases c4:(N:Int)<=b
   .exact zy (fail (by simp[qbC,c4]))
   refine zP ?_;cases c5:a==b
   rotate_left
   .exact zy (fail (by simp[qbC,c5]))
   refine zP ?_;(refine zG ?_;refine qaa (qcc _ _ _ _ wa) zB ?_);refine zP ?_;cases c6:qay a b 0 ls != (i:Int)
   rotate_left
   .exact zy (fail (by simp[qbC,c6]))
   refine zP ?_;(refine zG ?_;refine qaa (qcc _ _ _ _ wa) zB ?_);refine zP ?_;by_cases c7:qay b a 0 ls < 0
   .exact zy (fail (by simp[qbC,c7]))
   have ok:qbC N ls i (a,b)=Y:=by simp[qbC,c1,c2,c3,c4,c5,c6,c7]
   rw[ok,Bool.true_and] at h2;refine zP ?_;refine⟨i+1,⟨hi,h2⟩,wa,?_⟩;constructor<;>exact zU
  .obtain rfl:i=ls.length:=wa
   rw[Kk] at h2;have hok:qbX N ls 0 ls=Y:=h2.symm;have hr:=qj3 hok;have hb:qbE N ls=(List.range N).all λf=>(qbq N ls f).all λd=>decide (0<=d):=by
    have e1:decide (1<=(N:Int))=Y:=wm
    have e2:decide ((N:Int)<=6)=Y:=wm
    have e3:decide (ls.length<=30)=Y:=wm
    rw[qbE,e1,e2,e3,hok];simp
   refine zP ?_;refine walk_loop 200 200 (λf:Nat=>f<=N/\ ∀g,g < f-> ∀d∈qbq N ls g,0<=d)
    (λf=>⟨100, [(1, .ptr 0 0 0 0),(6,sci .i64 f)], [],1, [(0, .arr 2 0 [[sci .i64 N,lII ls]])]⟩) (λf=>N - f) 0 ?_ ?_ ?_
   .simp
   .exact zc @Ka
   .rintro f ⟨g1,g2⟩;refine zV ?_;by_cases hf:f < N
    .refine zP ?_;(refine zG ?_;refine qaa (qmE _ _ _ hr wa wa hf) zB ?_);refine zP ?_;refine walk_loop 200 200 (λj:Nat=>j<=N/\ ∀k (hk:k < (qbq N ls f).length),k < j->0<=(qbq N ls f)[k])
      (λj=>⟨100, [(1, .ptr 0 0 0 0),(6,sci .i64 f),(7,lI (qbq N ls f)),(8,sci .i64 j)], [],1, [(0, .arr 2 0 [[sci .i64 N,lII ls]])]⟩) (λj=>N - j) 0 ?_ ?_ ?_
     .simp
     .exact zc @Ka
     .rintro j ⟨k1,k2⟩;have hlen:=qcq (N:=N) (n:=f) (ls:=ls);refine zV ?_;by_cases hj:j < N
      .have hjl:j < (qbq N ls f).length:=wa
       (try simp(disch:=omega) only[go_sem,simprocAttr,zD,zE,eI]);by_cases hd:(qbq N ls f)[j] < 0
       .have e:qbE N ls=Z:=by
         rw[hb,Kl];refine⟨f,by simpa using hf,?_⟩;rw[Bool.not_eq_true,Kl];exact⟨_,Kh hjl,wm⟩
        exact zy e
       .refine zP ?_;refine⟨j+1,⟨hj,λk hk hlt=>?_⟩,wa,?_⟩
        .by_cases e:k=j
         .subst e;omega
         .exact k2 k hk wa
        .constructor<;>exact zU
      .obtain rfl:j=N:=wa
       have: ¬(j < (qbq j ls f).length):=wa
       refine zS this ?_;refine⟨f+1,⟨hf,λg hg d hd=>?_⟩,wa,?_⟩
       .by_cases e:g=f
        .subst e;obtain⟨k,hk,rfl⟩:=Kg hd;exact k2 k hk wa
        .exact g2 g wa d hd
       .constructor<;>exact zU
    .obtain rfl:f=N:=wa
     have e:qbE f ls=Y:=by
      rw[hb,Km];intro g hg;rw[Km];intro d hd;simpa using g2 g (by simpa using hg) d hd
     exact zy e
abbrev stB(s:St):IBlk:= .arr 4 0 [[sci .i64 s.mode,lI s.waits, .p (.imm 2 (pr ePk s.picks)), .p (.imm 3 (pr eIII s.takes))]]
abbrev grB(N:Int)(ls:List (Int × Int)):IBlk:= .arr 2 0 [[sci .i64 N,lII ls]]
def qpa(l:List Int)(a:Int)(hk:l.length<=1000000):Pure prog 39 [lI l,sci .i64 a] (scb (tB (a∈l))):=by
 generalize hr:tB (a∈l)=r;refine zAb func39 λhs=>?_;refine walk_loop 200 200 (λi:Nat=>i<=l.length/\ ∀j w,j < i->l[j]? =V w->w≠a) (λi=>⟨18, [(0,lI l),(1,sci .i64 a),(5,sci .i64 i)], [],0, []⟩) (λi=>l.length - i) 0 ⟨Nat.zero_le _,λj w h=>by omega⟩ ?_ ?_
 .exact zc @Ka
 .rintro i ⟨hi,hp⟩;refine zV ?_;by_cases li:i < l.length
  ·(try simp(disch:=omega) only[go_sem,simprocAttr,zD,zE,eI]);by_cases hc:l[i]=a
   .have e:r=Y:=by rw[<-hr];exact qap (hc ▸Kh li)
    exact zy (zQ hc e)
   .have hc2:(l[i]==a)=Z:=wS
    refine zS hc2 ?_;refine⟨i+1,⟨li,qaV li hp hc⟩,wa,?_⟩;constructor<;>exact zU
  .have e:r=Z:=by
    rw[<-hr];refine qah λh=>?_;obtain⟨j,hj,e⟩:=Kg h;exact hp j _ wa (Ke hj) e
   exact zy e
def qhR(s to:St)(but:Int):Prop:= ∀(j:Nat) (w:Int),s.waits[j]? =V w->w≠but->to.mode=2/\w∈to.waits
def qmF(s to:St)(but:Int)(h1:s.waits.length<=1000000)(h2:to.waits.length<=1000000):Pure prog 167 [lSt s,lSt to,sci .i64 but] (scb (tB (qhR s to but))):=by
 generalize hr:tB (qhR s to but)=r;have no: ∀(j:Nat) (w:Int),s.waits[j]? =V w->w≠but-> ¬(to.mode=2/\w∈to.waits)->r=Z:=λj w h1 h2 h3=>by
  rw[<-hr];exact qah λh=>h3 (h j w h1 h2)
 refine zAb func167 λhs=>?_;refine walk_loop 200 200 (λi:Nat=>i<=s.waits.length/\ ∀j w,j < i->s.waits[j]? =V w->w≠but->to.mode=2/\w∈to.waits)
  (λi=>⟨38, [(2,sci .i64 but),(3, .ptr 0 0 0 0),(4, .ptr 1 0 0 0),(7,sci .i64 i)], [],2, [(1,stB to),(0,stB s)]⟩) (λi=>s.waits.length - i) 0 ⟨Nat.zero_le _,λj w h=>by omega⟩ ?_ ?_
 .exact zc @Ka
 .rintro i ⟨hi,hp⟩;refine zV ?_;by_cases li:i < s.waits.length
  .have gi:=Ke li;refine zP ?_;(refine zM [2,3,4,7] ?_;refine zI [U,U,U,U,U,U,U,U,U,U,U,U,U,U,U,U,U,U,U,V [],U,U,U] ?_);(try simp(disch:=omega) only[go_sem,simprocAttr,zD,zE,eI]);by_cases hc:s.waits[i]=but
   .refine zS hc ?_;refine⟨i+1,⟨li,qaV li hp λh=>absurd hc h⟩,wa,?_⟩;constructor<;>exact zU
   .have hc2:(s.waits[i]==but)=Z:=wS
    by_cases hm:to.mode=2
    ·(try simp(disch:=omega) only[go_sem,simprocAttr,zD,zE,hc2,hm,eI]);(refine zF ?_;refine qaa (qpa to.waits s.waits[i] h2) zB ?_;refine zV ?_);by_cases hw:s.waits[i]∈to.waits
     .refine zS (qap hw) ?_;refine⟨i+1,⟨li,qaV li (λj w a b c=>(hp j w a b c).2) λ_=>hw⟩,wa,?_⟩;constructor<;>exact zU
     .have e:=no i _ gi hc λh=>hw h.2
      exact zy (zQ (qah hw) e)
    .have e:=no i _ gi hc λh=>hm h.1
     have hm2:(to.mode==2)=Z:=by rw[beq_eq_false_iff_ne];exact hm
     exact zy (zQ hc2 (zQ hm2 e))
  .have e:r=Y:=by
    rw[<-hr];obtain rfl:i=s.waits.length:=wa
    exact qap (qdn hp)
   exact zy e
def qkY(s:St)(n N:Int)(ls:List (Int × Int))(hl:ls.length<=1000000)(hw:s.waits.length<=1000000):Pure prog 79 [lSt s,sci .i64 n,eG N ls] (scb (tB (qfX ls n s))):=by
 generalize hr:tB (qfX ls n s)=r;refine zAb func79 λhs=>?_;by_cases hm:s.mode=2
 .have hm2:(s.mode==2)=Y:=by rw[beq_iff_eq];exact hm
  have no: ∀(j:Nat) (w:Int),s.waits[j]? =V w-> ¬((w,n)∈ls/\ ∀v,0 < j->s.waits[j - 1]? =V v->v < w)->r=Z:=λj w h1 h3=>by
   rw[<-hr];refine qah λh=>?_;rcases h with h | h
   .exact h.1 hm
   .exact h3 (h.2.2 j w h1)
  refine zS hm2 ?_;refine walk_loop 200 200 (λi:Nat=>i<=s.waits.length/\ ∀j w,j < i->s.waits[j]? =V w->(w,n)∈ls/\ ∀v,0 < j->s.waits[j - 1]? =V v->v < w)
   (λi=>⟨53, [(1,sci .i64 n),(3, .ptr 0 0 0 0),(5, .ptr 1 0 0 0),(7,sci .i64 i)], [],2, [(1,grB N ls),(0,stB s)]⟩) (λi=>s.waits.length - i) 0 ⟨Nat.zero_le _,λj w h=>by omega⟩ ?_ ?_
  .exact zc @Ka
  .rintro i ⟨hi,hp⟩;refine zV ?_;by_cases li:i < s.waits.length
   .have gi:=Ke li;refine zP ?_;(refine zM [1,3,5,7] ?_;refine zI [U,U,U,U,U,U,U,V [],U,U,U,U,U,U,U,U,U,U,U,U,U,U,U,U,U,U,U] ?_);(try simp(disch:=omega) only[go_sem,simprocAttr,zD,zE,eI]);(refine zF ?_;refine qaa (qcc _ _ _ _ hl) zB ?_;refine zV ?_);by_cases hin:(s.waits[i],n)∈ls
    .have hf: ¬qay s.waits[i] n 0 ls < 0:=wP
     refine zS hf ?_;cases i with
     | zero=>
       refine zS @Ka ?_;refine⟨1,⟨li,qaV li hp ⟨hin,λv h=>by omega⟩⟩,wa,?_⟩;exact zc @Kc
     | succ i=>
       have li2:i < s.waits.length:=wa
       have tn:((i:Int)+1).toNat=i+1:=rfl;have g2:(pr eI s.waits)[i]? =V (eI s.waits[i]):=qd6 (Ke li2);have g1:(pr eI s.waits)[i+1]? =V (eI s.waits[i+1]):=qd6 gi;(try simp(disch:=omega) only[go_sem,simprocAttr,zD,zE,tn,g1,g2,eI,Int.add_sub_cancel]);by_cases hlt:s.waits[i+1]<=s.waits[i]
       .have e:=no (i+1) _ gi λh=>by
         have:=h.2 s.waits[i] wa wb;omega
        exact zy (zQ hlt e)
       .refine zS hlt ?_;refine⟨i+1+1,⟨li,qaV li hp ⟨hin,λv _ hv=>?_⟩⟩,wa,?_⟩
        .simp only[Nat.add_sub_cancel] at hv;rw[Ke li2] at hv;cases hv;omega
        .constructor<;>(try simp(disch:=omega) only[go_sem,simprocAttr,zD,zE,Int.natCast_add,Kc])
         all_goals omega
    .have hf:qay s.waits[i] n 0 ls < 0:=by
      rcases Int.lt_or_le (qay s.waits[i] n 0 ls) 0 with h | h
      .exact h
      .exact absurd (findL_mem.1 h) hin
     have e:=no i _ gi λh=>hin h.1
     exact zy (zQ hf e)
   .obtain rfl:i=s.waits.length:=wa
    by_cases h0:1<=s.waits.length
    .have e:r=Y:=by rw[<-hr];exact qap (.inr ⟨hm,h0,qdn hp⟩)
     have h0':(1:Int)<=(s.waits.length:Int):=wa
     exact zy (zQ h0' e)
    .have e:r=Z:=by rw[<-hr];exact qah λh=>h.elim (λh=>h.1 hm) λh=>h0 h.2.1
     have h0': ¬(1:Int)<=(s.waits.length:Int):=wa
     exact zy (zQ h0' e)
 .have hm2:(s.mode==2)=Z:=by rw[beq_eq_false_iff_ne];exact hm
  have e:r=((s.waits.length:Int)==0):=by
   rw[<-hr];by_cases h0:s.waits.length=0
   .rw[qap (.inl ⟨hm,h0⟩)];symm;rw[beq_iff_eq];omega
   .rw[qah λh=>h.elim (λh=>h0 h.2) λh=>hm h.1];symm;rw[beq_eq_false_iff_ne];omega
  exact zy (zQ hm2 e)
end Go.Proofs.NO
