/- Facts leant on. -/
import Derived.Test.YtfhhdgkhajkapaaGreatNH
import Derived.Test.YtfhhdgkhajkapaaGreatNGa
import Derived.Test.YtfhhdgkhajkapaaGreatGP
import Derived.Test.YtfhhdgkhajkapaaGreatIdAz
import Derived.Test.YtfhhdgkhajkapaaGreatIdRb
import Derived.Test.YtfhhdgkhajkapaaGreatNzP2
import Derived.Test.YtfhhdgkhajkapaaGreatIdRc
set_option linter.all false
open True renaming intro->Ka
open List renaming getElem?_eq_getElem->Kb,getElem?_take->Kc
open Int renaming natCast_zero->Kd,lt_or_le->Ke
open Nat renaming zero_le->Kf
open Option renaming none->U,some->V
open Bool renaming false->Y
/- The document on tables: picks, takes. -/
namespace Go.Proofs.NO
open Go Go.Idl Go.Proofs Go.GP Go.Proofs.Tryz
set_option maxHeartbeats 0
set_option maxRecDepth 100000
def qkW(s:St)(n:Int)(m:Nat)(N:Int)(ls:List (Int × Int))(hl:ls.length<=1000000):Pure prog 80 [lSt s,sci .i64 n,sci .i64 (m:Int),eG N ls] (scb (tB (qfU ls n m s))):=by
 generalize hr:tB (qfU ls n m s)=r;refine zAb func80 λhs=>?_;by_cases h4:s.picks.length<=4
 .have h4': ¬(4:Int) < (s.picks.length:Int):=wa
  have hmode:(s.mode=1\/s.picks.length=0)\/((0:Int) < (s.picks.length:Int)/\(s.mode==1)=Y):=by
   by_cases h:s.mode=1
   .exact .inl (.inl h)
   .by_cases h0:s.picks.length=0
    .exact .inl (.inr h0)
    .exact .inr ⟨wa,by rw[beq_eq_false_iff_ne];exact h⟩
  refine zS h4' ?_;rcases hmode with hmode | ⟨hm1,hm2⟩
  rotate_left
  .have hm3:(s.mode != 1)=true:=by rw[bne,hm2];rfl
   have e:r=Y:=by
    rw[<-hr];refine qah λh=>?_;rw[beq_eq_false_iff_ne] at hm2;rcases h.2.1 with h | h
    .exact hm2 h
    .omega
   exact zy (zQ hm1 (zQ hm3 e))
  have no: ∀(j:Nat) (p:Int × List (Int × Int)),s.picks[j]? =V p-> ¬(StaP m p.1/\p.2.length<=4/\qk3 ls n p.2)->r=Y:=λj p h1 h2=>by
   rw[<-hr];exact qah λh=>h2 (h.2.2 j p h1)
  have go: ∀(d:Bool),(d=true\/d=Y):=λd=>by cases d<;>simp
  have cond:(0 < s.picks.length/\(s.mode==1)=true)\/s.picks.length=0:=by
   rcases Nat.eq_zero_or_pos s.picks.length with h | h
   .exact .inr h
   .rcases hmode with h1 | h1
    .exact .inl ⟨h,by rw[beq_iff_eq];exact h1⟩
    .exact .inr h1
  rcases cond with ⟨k1,k2⟩ | k1
  .have k1':(0:Int) < (s.picks.length:Int):=wa
   have k3:(s.mode != 1)=Y:=by rw[bne,k2];rfl
   refine zS (zQ k1' k3) ?_;refine qac 200 200 (λi:Nat=>i<=s.picks.length/\ ∀j p,j < i->s.picks[j]? =V p->StaP m p.1/\p.2.length<=4/\qk3 ls n p.2)
    (λi=>⟨89, [(1,sci .i64 n),(2,sci .i64 (m:Int)),(4, .ptr 0 0 0 0),(7, .ptr 1 0 0 0),(9,sci .i64 i)], [],2, [(1,grB N ls),(0,stB s)]⟩) (λi=>s.picks.length - i) 0 [] ⟨Kf _,λj w h=>by omega⟩ ?_ ?_
   .exact zc @Kd
   .rintro i ⟨hi,hp⟩;refine zV ?_;by_cases li:i < s.picks.length
    .have gi:=Kb li;refine zP ?_;(try simp(disch:=omega) only[go_sem,simprocAttr,zD,zE,ePk]);generalize hpk:s.picks[i]=pk at *;obtain⟨nx,sends⟩:=pk;by_cases c1:nx < 0
     .have e:=no i _ gi λh=>by have:=h.1.1;simp only at this;omega
      exact zy (zQ c1 e)
     by_cases c2:(m:Int)<=nx
     .have e:=no i _ gi λh=>by have:=h.1.2;simp only at this;omega
      exact zy (zQ c1 (zQ c2 e))
     by_cases c3:(4:Int) < (sends.length:Int)
     .have e:=no i _ gi λh=>by have:=h.2.1;simp only at this;omega
      exact zy (zQ c1 (zQ c2 (zQ c3 e)))
     refine zS (zQ c1 (zQ c2 c3)) ?_;refine walk_loop 200 200 (λk:Nat=>k<=sends.length/\ ∀j x,j < k->sends[j]? =V x->(n,x.1)∈ls/\LetP x.2)
      (λk=>⟨89, [(1,sci .i64 n),(2,sci .i64 (m:Int)),(4, .ptr 0 0 0 0),(7, .ptr 1 0 0 0),(9,sci .i64 i),(10, .ptr 2 0 0 0),(11,sci .i64 k)], [],3, [(2, .arr 2 0 [[sci .i64 nx,lII sends]]),(1,grB N ls),(0,stB s)]⟩) (λk=>sends.length - k) 0 ⟨Kf _,λj w h=>by omega⟩ ?_ ?_
     .exact zc @Kd
     .rintro k ⟨hk,hq⟩;refine zV ?_;by_cases lk:k < sends.length
      .have gk:=Kb lk;have nok: ¬((n,sends[k].1)∈ls/\LetP sends[k].2)->r=Y:=λh=>no i _ gi λq=>h (q.2.2 k _ gk)
       refine zP ?_;(refine zM [1,2,4,7,9,10,11] ?_;refine zI [U,U,U,U,U,U,U,U,V [],U,U,U,U,U,U,U,U,U,U,U,U,U,U,U,U,U,U,U] ?_);(try simp(disch:=omega) only[go_sem,simprocAttr,zD,zE,eII]);(refine zF ?_;refine qaa (qcc _ _ _ _ hl) zB ?_;refine zV ?_);generalize hx:sends[k]=x at *;obtain⟨to,lt⟩:=x;simp only at nok;by_cases hin:(n,to)∈ls
       .have hf: ¬qay n to 0 ls < 0:=wP
        (try simp(disch:=omega) only[go_sem,simprocAttr,zD,zE,hf,hx,eII]);by_cases d1:lt < 0
        ·(try simp(disch:=omega) only[go_sem,simprocAttr,zD,zE,d1,hx,eII,nok λh=>by have:=h.2.1;omega])
        by_cases d2:(3:Int) < lt
        ·(try simp(disch:=omega) only[go_sem,simprocAttr,zD,zE,d1,d2,hx,eII,nok λh=>by have:=h.2.2;omega])
        (try simp(disch:=omega) only[go_sem,simprocAttr,zD,zE,d1,d2,hx,eII]);refine⟨k+1,⟨lk,qaV lk hq (by rw[hx];exact⟨hin,by unfold LetP;simp only;omega⟩)⟩,wa,?_⟩;constructor<;>exact zU
       .have hf:qay n to 0 ls < 0:=by
         rcases Ke (qay n to 0 ls) 0 with h | h
         .exact h
         .exact absurd (findL_mem.1 h) hin
        (try simp(disch:=omega) only[go_sem,simprocAttr,zD,zE,hf,hx,eII,nok λh=>hin h.1])
      .obtain rfl:k=sends.length:=wa
       refine zP ?_;refine⟨i+1, [2],⟨li,qaV li hp (by rw[hpk];exact⟨⟨wc,wc⟩,wc,qdn hq⟩)⟩,wa,?_⟩;constructor<;>exact zU
    .obtain rfl:i=s.picks.length:=wa
     have e:r=true:=by rw[<-hr];exact qap ⟨h4,hmode,qdn hp⟩
     exact zy e
  .have k1': ¬(0:Int) < (s.picks.length:Int):=wa
   have kn:s.picks= []:=List.eq_nil_of_length_eq_zero k1;have e:r=true:=by rw[<-hr];exact qap ⟨h4,hmode,λj p h=>by rw[kn] at h;simp at h⟩
   refine zS k1' ?_;refine walk_loop 200 200 (λi:Nat=>i=0)
    (λi=>⟨89, [(4, .ptr 0 0 0 0),(9,sci .i64 0)], [],2, [(1,grB N ls),(0,stB s)]⟩) (λi=>i) 0 rfl ?_ ?_
   .constructor<;>exact zU
   .rintro i rfl;exact zy (zQ k1' e)
 .have h4':(4:Int) < (s.picks.length:Int):=wa
  have e:r=Y:=by rw[<-hr];exact qah λh=>h4 h.1
  exact zy (zQ h4' e)
abbrev lNd(x:Nd):IV:= .agg [sci .i64 x.start, .p (.imm 4 (pr eSt x.states))]
abbrev ndB(x:Nd):IBlk:= .arr 2 0 [[sci .i64 x.start, .p (.imm 4 (pr eSt x.states))]]
def qkb(ls:List (Int × Int))(n:Int)(x:Nd)(s:St)(j:Nat)(t:Int × Int × Int):Prop:=
 (t.1,n)∈ls/\LetP t.2.1/\StaP x.states.length t.2.2/\(∀to,x.states[t.2.2.toNat]? =V to->qhR s to t.1)/\Once (s.takes.take j) t
def qfW(ls:List (Int × Int))(n:Int)(x:Nd)(s:St):Prop:= ∀(j:Nat) (t:Int × Int × Int),s.takes[j]? =V t->qkb ls n x s j t
def qkX(s:St)(n:Int)(x:Nd)(N:Int)(ls:List (Int × Int))(hl:ls.length<=1000000)(hw:s.waits.length<=1000000)(ht:s.takes.length<=1000000)(hx: ∀to∈x.states,to.waits.length<=1000000):
  Pure prog 81 [lSt s,sci .i64 n,lNd x,eG N ls] (scb (tB (qfW ls n x s))):=by
 generalize hr:tB (qfW ls n x s)=r;have no: ∀(j:Nat) (t:Int × Int × Int),s.takes[j]? =V t-> ¬qkb ls n x s j t->r=Y:=λj t h1 h2=>by
  rw[<-hr];exact qah λh=>h2 (h j t h1)
 refine zAb func81 λhs=>?_;refine qac 200 200 (λi:Nat=>i<=s.takes.length/\ ∀j t,j < i->s.takes[j]? =V t->qkb ls n x s j t)
  (λi=>⟨91, [(1,sci .i64 n),(4, .ptr 0 0 0 0),(6, .ptr 1 0 0 0),(7, .ptr 2 0 0 0),(9,sci .i64 i)], [],3, [(2,grB N ls),(1,ndB x),(0,stB s)]⟩) (λi=>s.takes.length - i) 0 [] ⟨Kf _,λj w h=>by omega⟩ ?_ ?_
 .exact zc @Kd
 .rintro i ⟨hi,hp⟩;refine zV ?_;by_cases li:i < s.takes.length
  .have gi:=Kb li;have noi:=no i _ gi;(try simp(maxSteps:=2000000) (disch:=omega) only[go_sem,simprocAttr,zD,zE,eIII]);generalize htk:s.takes[i]=tk at *;obtain⟨from',lt,nx⟩:=tk;(refine zM [1,4,6,7,9,10] ?_;refine zI (U::U::U::U::V []::U::U::U::U::U::U::U::U::U::U::U::U::U::U::U::U::U::U::U::U::U::U::U::U::U::U::U::U::U::U::U::U::U::U::V []::U::U:: []) ?_);refine zV ?_;(refine zF ?_;refine qaa (qcc _ _ _ _ hl) zB ?_;refine zV ?_);by_cases hin:(from',n)∈ls
   rotate_left
   .have hf:qay from' n 0 ls < 0:=by
     rcases Ke (qay from' n 0 ls) 0 with h | h
     .exact h
     .exact absurd (findL_mem.1 h) hin
    exact zy (zQ hf (noi λh=>hin h.1))
   have hf: ¬qay from' n 0 ls < 0:=wP
   by_cases d1:lt < 0
   .exact zy (zQ hf (zQ d1 (noi λh=>by have:=h.2.1.1;simp only at this;omega)))
   by_cases d2:(3:Int) < lt
   .exact zy (zQ hf (zQ d1 (zQ d2 (noi λh=>by have:=h.2.1.2;simp only at this;omega))))
   by_cases d3:nx < 0
   .exact zy (zQ hf (zQ d1 (zQ d2 (zQ d3 (noi λh=>by have:=h.2.2.1.1;simp only at this;omega)))))
   by_cases d4:(x.states.length:Int)<=nx
   .exact zy (zQ hf (zQ d1 (zQ d2 (zQ d3 (zQ d4 (noi λh=>by have:=h.2.2.1.2;simp only at this;omega))))))
   obtain⟨nx,rfl⟩:=Int.eq_ofNat_of_zero_le (show 0<=nx by omega);have hnx:nx < x.states.length:=wa
   have gn:=Kb hnx;have gs:(pr eSt x.states)[nx]? =V (eSt x.states[nx]):=qd6 gn;have hto:=hx _ (List.getElem_mem hnx);generalize x.states[nx]=to at *;(try simp(maxSteps:=2000000) (disch:=omega) only[go_sem,simprocAttr,zD,zE,hf,d1,d2,d3,d4,gs,eSt]);(refine zF ?_;refine qaa (qmF s to from' hw hto) zB ?_;refine zV ?_);by_cases hkp:qhR s to from'
   rotate_left
   .exact zy (zQ (qah hkp) (noi λh=>hkp (h.2.2.2.1 to (by simpa using gn))))
   refine zS (qap hkp) ?_;refine walk_loop 200 200 (λk:Nat=>k<=i/\ ∀j u,j < k->s.takes[j]? =V u-> ¬(u.1=from'/\u.2.1=lt))
    (λk=>⟨91, [(1,sci .i64 n),(4, .ptr 0 0 0 0),(6, .ptr 1 0 0 0),(7, .ptr 2 0 0 0),(9,sci .i64 i),(10, .ptr 3 0 0 0),(11,sci .i64 k)], [],4, [(3, .arr 3 0 [[sci .i64 from',sci .i64 lt,sci .i64 (nx:Int)]]),(2,grB N ls),(1,ndB x),(0,stB s)]⟩) (λk=>i - k) 0 ⟨Kf _,λj w h=>by omega⟩ ?_ ?_
   .exact zc @Kd
   .rintro k ⟨hk,hq⟩;refine zV ?_;by_cases lk:k < i
    .have lk2:k < s.takes.length:=wa
     have gk:=Kb lk2;have gk2:(pr eIII s.takes)[k]? =V (eIII s.takes[k]):=qd6 gk;have nok:(s.takes[k].1=from'/\s.takes[k].2.1=lt)->r=Y:=λh=>noi λq=>q.2.2.2.2 k _ (by rw[Kc,if_pos lk];exact gk) h
     refine zP ?_;(refine zM [1,4,6,7,9,10,11] ?_;refine zI [U,U,U,U,U,U,U,U,U,U,U,U,U,U,U,U,U,U,U,U] ?_);(try simp(maxSteps:=2000000) (disch:=omega) only[go_sem,simprocAttr,zD,zE,gk2,eIII]);by_cases e1:s.takes[k].1=from'
     .by_cases e2:s.takes[k].2.1=lt
      ·(try simp(maxSteps:=2000000) (disch:=omega) only[go_sem,simprocAttr,zD,zE,e1,gk2,eIII,e2,nok ⟨e1,e2⟩])
      .have e2':(s.takes[k].2.1==lt)=Y:=by rw[beq_eq_false_iff_ne];exact e2
       (try simp(maxSteps:=2000000) (disch:=omega) only[go_sem,simprocAttr,zD,zE,e1,gk2,eIII,e2']);refine⟨k+1,⟨lk,qaV lk2 hq λh=>e2 h.2⟩,wa,?_⟩;constructor<;>exact zU
     .have e1':(s.takes[k].1==from')=Y:=by rw[beq_eq_false_iff_ne];exact e1
      refine zS e1' ?_;refine⟨k+1,⟨lk,qaV lk2 hq λh=>e1 h.1⟩,wa,?_⟩;constructor<;>exact zU
    .obtain rfl:k=i:=wa
     refine zP ?_;refine⟨k+1, [3],⟨li,qaV li hp (by
      rw[htk];refine⟨hin,⟨wc,wc⟩,⟨wc,wc⟩,λt' h'=>?_,λj u h=>?_⟩
      .simp only[Int.toNat_natCast] at h';rw[gn] at h';cases h';exact hkp
      .rw[Kc] at h;split at h
       .exact hq j u (by assumption) h
       .cases h)⟩,wa,?_⟩
     constructor<;>exact zU
  .obtain rfl:i=s.takes.length:=wa
   have e:r=true:=by rw[<-hr];exact qap (qdn hp)
   exact zy e
def qns{ls:List (Int × Int)}{n:Int}{x:Nd}{s:St}:MayP ls n x.states s↔qn1 s/\qfX ls n s/\qfU ls n x.states.length s/\qfW ls n x s:=by
 unfold MayP qpe qpc qfW qkb KeptP qhR;constructor
 .rintro⟨h1,h2,h3,h4,h5⟩;refine⟨h1,h2,h3,λj t hj=>?_⟩;obtain⟨a,b,c,d⟩:=h4 j t hj;exact⟨a,b,c,λto hto i w hw hne=>h5 j t hj i w hw hne to hto,d⟩
 .rintro⟨h1,h2,h3,h4⟩;refine⟨h1,h2,h3,λj t hj=>?_,λj t hj i w hw hne to hto=>?_⟩
  .obtain⟨a,b,c,d,e⟩:=h4 j t hj;exact⟨a,b,c,e⟩
  .obtain⟨a,b,c,d,e⟩:=h4 j t hj;exact d to hto i w hw hne
def qkU(N:Int)(ls:List (Int × Int))(T:List Nd)(hT:qd9 T):Pure prog 17 [.p (.imm 2 (pr eNd T)),eG N ls] (scb (tB (TabP N ls T))):=by
 generalize hr:tB (TabP N ls T)=r;have hTl:=hT.1;refine zAb func17 λhs=>?_;(refine zG ?_;refine qaa (qkT N ls) zB ?_;refine zV ?_);cases hrb:qbE N ls with
 | false=>
   have e:r=Y:=by rw[<-hr];exact qah λh=>by have:=qiw.2 h.1;rw[hrb] at this;cases this
   exact zy e
 | true=>
   have hrp:=qiw.1 hrb;have hl:ls.length<=1000000:=by have:=hrp.2.2.1;omega
   by_cases hN:(T.length:Int)=N
   rotate_left
   .have hN2:((T.length:Int)==N)=Y:=by rw[beq_eq_false_iff_ne];exact hN
    have e:r=Y:=by rw[<-hr];exact qah λh=>hN h.2.1
    exact zy (zQ hN2 e)
   have hN2:((T.length:Int)==N)=true:=by rw[beq_iff_eq];exact hN
   have no: ∀(j:Nat) (x:Nd),T[j]? =V x-> ¬qn3 ls j x->r=Y:=λj x h1 h2=>by
    rw[<-hr];exact qah λh=>h2 (h.2.2 j x h1)
   refine zS hN2 ?_;refine walk_loop 200 200 (λi:Nat=>i<=T.length/\ ∀j x,j < i->T[j]? =V x->qn3 ls j x)
    (λi=>⟨101, [(0, .p (.imm 2 (pr eNd T))),(3, .ptr 0 0 0 0),(5,sci .i64 i)], [],1, [(0,grB N ls)]⟩) (λi=>T.length - i) 0 ⟨Kf _,λj w h=>by omega⟩ ?_ ?_
   .exact zc @Kd
   .rintro i ⟨hi,hp⟩;refine zV ?_;by_cases li:i < T.length
    .have gi:=Kb li;have noi:=no i _ gi;obtain⟨hss,hsx⟩:=hT.2 i _ gi;have gx:(pr eNd T)[i]? =V (eNd T[i]):=qd6 gi;generalize hx:T[i]=x at *;(try simp(maxSteps:=2000000) (disch:=omega) only[go_sem,simprocAttr,zD,zE,gx,eNd]);by_cases c1:(x.states.length:Int) < 1
     .exact zy (zQ c1 (noi λh=>by have:=h.1;omega))
     by_cases c2:(8:Int) < (x.states.length:Int)
     .exact zy (zQ c1 (zQ c2 (noi λh=>by have:=h.2.1;omega)))
     by_cases c3:x.start < 0
     ·(try simp(maxSteps:=2000000) (disch:=omega) only[go_sem,simprocAttr,zD,zE,c1,c2,gx,eNd,c3,noi λh=>by have:=h.2.2.1.1;omega])
     by_cases c4:(x.states.length:Int)<=x.start
     ·(try simp(maxSteps:=2000000) (disch:=omega) only[go_sem,simprocAttr,zD,zE,c1,c2,gx,eNd,c3,c4,noi λh=>by have:=h.2.2.1.2;omega])
     (try simp(maxSteps:=2000000) (disch:=omega) only[go_sem,simprocAttr,zD,zE,c1,c2,gx,eNd,c3,c4]);refine qac 200 200 (λk:Nat=>k<=x.states.length/\ ∀j s,j < k->x.states[j]? =V s->MayP ls i x.states s)
      (λk=>⟨101, [(0, .p (.imm 2 (pr eNd T))),(3, .ptr 0 0 0 0),(5,sci .i64 i),(6,sci .i64 x.states.length),(7,sci .i64 k)], [],1, [(0,grB N ls)]⟩) (λk=>x.states.length - k) 0 [] ⟨Kf _,λj w h=>by omega⟩ ?_ ?_
     .exact zc @Kd
     .rintro k ⟨hk,hq⟩;refine zV ?_;by_cases lk:k < x.states.length
      .have gk:=Kb lk;have nok: ¬MayP ls i x.states x.states[k]->r=Y:=λh=>noi λq=>h (q.2.2.2 k _ gk)
       have gks:(pr eSt x.states)[k]? =V (eSt x.states[k]):=qd6 gk;obtain⟨w1,w2,w3⟩:=hsx k _ gk;have hall: ∀to∈x.states,to.waits.length<=1000000:=λto hto=>by
        obtain⟨q,hq,rfl⟩:=List.getElem_of_mem hto;exact(hsx q _ (Kb hq)).1
       generalize hs:x.states[k]=s at *;(try simp(maxSteps:=2000000) (disch:=omega) only[go_sem,simprocAttr,zD,zE,gx,eNd,gks,eSt]);(refine zM [0,3,5,6,7,8] ?_;refine zI [U,U,U,U,U,U,U,U,U,U,U,U,V [],U,U,U,U,U,U,U,V [],U,U,U,U,U,U,U,U,U,U,V [],U,U] ?_);refine zV ?_;by_cases m1:s.mode < 0
       .exact zy (zQ m1 (nok λh=>by have:=h.1.1;omega))
       by_cases m2:(2:Int) < s.mode
       .exact zy (zQ m1 (zQ m2 (nok λh=>by have:=h.1.2;omega)))
       have mm:qn1 s:=⟨wa,wa⟩;refine zS (zQ m1 m2) ?_;(refine zF ?_;refine qaa (qkY s i N ls hl w1) zB ?_;refine zV ?_);by_cases h1:qfX ls i s
       rotate_left
       .exact zy (zQ (qah h1) (nok λh=>h1 h.2.1))
       refine zS (qap h1) ?_;(refine zF ?_;refine qaa (qkW s i x.states.length N ls hl) zB ?_;refine zV ?_);by_cases h2:qfU ls i x.states.length s
       rotate_left
       .exact zy (zQ (qah h2) (nok λh=>h2 h.2.2.1))
       (try simp(maxSteps:=2000000) (disch:=omega) only[go_sem,simprocAttr,zD,zE,qap h2,gx,eNd]);(refine zF ?_;refine qaa (qkX s i x N ls hl w1 w3 hall) zB ?_;refine zV ?_);by_cases h3:qfW ls i x s
       rotate_left
       .exact zy (zQ (qah h3) (nok λh=>h3 (qns.1 h).2.2.2))
       refine zS (qap h3) ?_;refine⟨k+1, [1],⟨lk,qaV lk hq (by rw[hs];exact qns.2 ⟨mm,h1,h2,h3⟩)⟩,wa,?_⟩;constructor<;>exact zU
      .obtain rfl:k=x.states.length:=wa
       refine zP ?_;refine⟨i+1,⟨li,qaV li hp (by rw[hx];exact⟨wa,wa,⟨wa,wa⟩,qdn hq⟩)⟩,wa,?_⟩;constructor<;>exact zU
    .obtain rfl:i=T.length:=wa
     have e:r=true:=by rw[<-hr];exact qap ⟨hrp,hN,qdn hp⟩
     exact zy e
def qq3(N n:Int)(ls:List (Int × Int))(hl:ls.length<=1000000):Pure prog 171 [eG N ls,sci .i64 n,sci .i64 1] (lI (ins n 0 ls)):=by
 refine zAb func171 λhs=>?_;refine walk_own 7 1 trivial rfl (.inr rfl) ?_;refine zM [1,2,7,11,12,13] ?_;refine qac 200 200 (λi:Nat × Nat × List Int=>i.1<=ls.length/\i.2.2.length<=i.1/\i.2.2++ins n i.1 (ls.drop i.1)=ins n 0 ls)
  (λi=>⟨29, [(1,sci .i64 n),(2,sci .i64 1),(7, .ref 1 i.2.1 0 i.2.2.length),(11,lII ls),(12,sci .i64 ls.length),(13,sci .i64 i.1)], [],2,
   [(1, .arr 1 i.2.1 (ir eI i.2.2))]⟩) (λi=>ls.length - i.1) (0,0, []) [] ?_ ?_ ?_
 .simp
 .exact zc @Kd
 .rintro⟨i,g,acc⟩ ⟨h1,h2,h3⟩;simp only at h1 h2 h3;refine zV ?_;by_cases hi:i < ls.length
  .rw[qaU hi] at h3;(try simp(disch:=omega) only[go_sem,simprocAttr,zD,zE,eII]);by_cases hc:ls[i].2=n
   .refine zS hc ?_;refine⟨(i+1,g+1,acc++ [(i:Int)]), [],⟨hi,wm,wW⟩,wc,?_⟩;constructor<;>exact zU
   .refine zS hc ?_;refine⟨(i+1,g,acc), [],⟨hi,wc,wW⟩,wc,?_⟩;constructor<;>exact zU
  .obtain rfl:i=ls.length:=wa
   rw[List.drop_length] at h3;(try simp(disch:=omega) only[go_sem,simprocAttr,zD,zE,<-h3,ins])
def qdl(N n:Int)(ls:List (Int × Int))(hl:ls.length<=1000000):Pure prog 89 [eG N ls,sci .i64 n] (lI (ins n 0 ls)):=by
 refine zAb func89 λhs=>?_;(refine zG ?_;refine qaa (qq3 _ _ _ hl) zB ?_);exact zT
end Go.Proofs.NO
namespace Go.GP
open Go Go.Idl
variable{a b:Int}{l:List (Int × Int)}{v:IV}{i:Nat}
end Go.GP
namespace Go.GP
open Go Go.Idl
structure IntMap(P:Program)(t:TypeId):Prop where
 ex: ∃k e,tmp P t=V (k,e)/\tkey P k=V (Y, [.int .i64])/\tag P k=V Y/\(tzv P e).bind cstv=V (sci .i64 0)
variable{P:Program}{t:TypeId}{G:Nat->Option IBlk}{b:Nat}{l:List (Int × Int)}{x:Int}
end Go.GP
namespace Go.GP
def allM:Nat->List Int->List (Int × Int)
 | _, []=> []
 | i,x::r=>((i:Int)+1,x)::allM (i+1) r
def keysM(l:List (Int × Int)):List Int:=l.map (·.1)
def idxM(q:Int):Nat->List (Int × Int)->Int
 | _, []=> -1
 | i,x::r=>if x.1=q then i else idxM q (i+1) r
def restL(out:List Int)(inn:List (Int × Int)):List (Int × Int):=(allM 0 out).filter λm=>decide (m.1 ∉ keysM inn)
def MayP(sent:Int):Int->List (Int × Int)->Prop
 | _, []=>True
 | l,x::r=>(l < x.1/\x.1<=sent/\0<=x.2/\x.2<=3)/\MayP sent x.1 r
end Go.GP
/- What was sent on a link and not got: the program's answer. -/
namespace Go.Proofs.NO
open Go Go.Idl Go.Proofs Go.GP Go.Proofs.Tryz
set_option maxHeartbeats 0
set_option maxRecDepth 100000
def MixM(out:List Int)(inn:List (Int × Int))(m:Int × Int):Prop:=1 < (keysM inn).count m.1\/m ∉ allM 0 out
instance (out:List Int)(inn:List (Int × Int))(m:Int × Int):Decidable (MixM out inn m):=inferInstanceAs (Decidable (_\/_))
def indexL_at'(a:Int): ∀(l:List Int) (i:Nat),indexL a i l= -1\/ ∃j:Nat,indexL a i l=((i+j:Nat):Int)/\j < l.length/\l[j]? =V a
 | [],i=> .inl rfl
 | x::r,i=>by
   unfold indexL;split
   .rename_i e;exact .inr ⟨0,rfl,wb,by simp[e]⟩
   .rcases indexL_at' a r (i+1) with e | ⟨j,e,hj,h⟩
    .exact .inl e
    .exact .inr ⟨j+1,by rw[e];congr 1;omega,by simpa using hj,wE⟩
def zPc:Pc:=⟨0,0,0, [], [], []⟩
structure LkF(ls:List (Int × Int))(l:List Pc)(i a b o j:Nat)(p q:Pc):Prop where
 hx:ls[i]? =V ((a:Int),(b:Int))
 ha:l[a]? =V p
 hb:l[b]? =V q
 hp:p.node=a
 hq:q.node=b
 ho:indexL (i:Int) 0 (outs (a:Int) 0 ls)=(o:Int)
 hol:o < p.sent.length
 hj:indexL (i:Int) 0 (ins (b:Int) 0 ls)=(j:Int)
 hjl:j < q.inn.length
 hoo:(outs (a:Int) 0 ls)[o]? =V (i:Int)
 hjj:(ins (b:Int) 0 ls)[j]? =V (i:Int)
 hP:qaA p
 hQ:qaA q
end Go.Proofs.NO
