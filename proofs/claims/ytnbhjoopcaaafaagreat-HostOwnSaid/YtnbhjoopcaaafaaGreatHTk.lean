/- Facts that the proofs of this claim lean on. -/
import Derived.Test.YtnbhjoopcaaafaaGreatHS1
import Derived.Test.YtnbhjoopcaaafaaGreatHIh
import Derived.Test.YtnbhjoopcaaafaaGreatIdIo
import Derived.Test.YtnbhjoopcaaafaaGreatHCq
import Derived.Test.YtnbhjoopcaaafaaGreatHPl
set_option linter.unusedSimpArgs false
set_option linter.unusedVariables false
/- Where a message belongs: a search by halves. -/
namespace Go.Proofs.HO
open Go Go.Idl Go.Proofs Go.GP
set_option maxHeartbeats 20000000
set_option maxRecDepth 100000
def cmpI (a b:Int):Int:=if a < b then -1 else if b < a then 1 else 0
theorem isNaNi_spec (a:Int):Pure Tryz.prog 95 [sci .i64 a] (scb false):=by
 refine pcall0 200 (fn:=Tryz.f95) Tryz.func95 rfl (by simp [Tryz.ntmps95]) zB zB fun hs=>?_
 (repeat(first | ((refine zW ?_;try with_reducible exact True.intro))))
theorem CompareI_spec (a b:Int):Pure Tryz.prog 72 [sci .i64 a,sci .i64 b] (sci .i64 (cmpI a b)):=by
 refine pcall0 200 (fn:=Tryz.f72) Tryz.func72 rfl (by simp [Tryz.ntmps72]) zB zB fun hs=>?_
 unfold cmpI
 by_cases h1:a < b
 ·(repeat(first | ((refine zW ?_;try with_reducible exact True.intro)) | (refine at_call 200 ?_;(refine zW ?_;try with_reducible exact True.intro);refine callA_of (isNaNi_spec _) zB ?_;((try refine zW ?_);(try with_reducible exact True.intro))) | (refine at_dcall ?_;(refine zW ?_;try with_reducible exact True.intro);refine callA_of (isNaNi_spec _) zB ?_;((try refine zW ?_);(try with_reducible exact True.intro))) | (refine at_call 200 ?_;(refine zW ?_;try with_reducible exact True.intro);refine callA_view ?_;(refine zW ?_;try with_reducible exact True.intro);refine callV_of (isNaNi_spec _) (by first | rfl | (split<;>rfl)) ?_;((try refine zW ?_);(try with_reducible exact True.intro))) | (refine at_dcall ?_;(refine zW ?_;try with_reducible exact True.intro);refine callA_view ?_;(refine zW ?_;try with_reducible exact True.intro);refine callV_of (isNaNi_spec _) (by first | rfl | (split<;>rfl)) ?_;((try refine zW ?_);(try with_reducible exact True.intro)))))
  ((try refine zO ?_);(try with_reducible exact True.intro))
  (repeat(first | ((refine zW ?_;try with_reducible exact True.intro)) | (refine at_call 200 ?_;(refine zW ?_;try with_reducible exact True.intro);refine callA_of (isNaNi_spec _) zB ?_;((try refine zW ?_);(try with_reducible exact True.intro))) | (refine at_dcall ?_;(refine zW ?_;try with_reducible exact True.intro);refine callA_of (isNaNi_spec _) zB ?_;((try refine zW ?_);(try with_reducible exact True.intro))) | (refine at_call 200 ?_;(refine zW ?_;try with_reducible exact True.intro);refine callA_view ?_;(refine zW ?_;try with_reducible exact True.intro);refine callV_of (isNaNi_spec _) (by first | rfl | (split<;>rfl)) ?_;((try refine zW ?_);(try with_reducible exact True.intro))) | (refine at_dcall ?_;(refine zW ?_;try with_reducible exact True.intro);refine callA_view ?_;(refine zW ?_;try with_reducible exact True.intro);refine callV_of (isNaNi_spec _) (by first | rfl | (split<;>rfl)) ?_;((try refine zW ?_);(try with_reducible exact True.intro)))))
 ·by_cases h2:b < a
  ·(repeat(first | ((refine zW ?_;try with_reducible exact True.intro)) | (refine at_call 200 ?_;(refine zW ?_;try with_reducible exact True.intro);refine callA_of (isNaNi_spec _) zB ?_;((try refine zW ?_);(try with_reducible exact True.intro))) | (refine at_dcall ?_;(refine zW ?_;try with_reducible exact True.intro);refine callA_of (isNaNi_spec _) zB ?_;((try refine zW ?_);(try with_reducible exact True.intro))) | (refine at_call 200 ?_;(refine zW ?_;try with_reducible exact True.intro);refine callA_view ?_;(refine zW ?_;try with_reducible exact True.intro);refine callV_of (isNaNi_spec _) (by first | rfl | (split<;>rfl)) ?_;((try refine zW ?_);(try with_reducible exact True.intro))) | (refine at_dcall ?_;(refine zW ?_;try with_reducible exact True.intro);refine callA_view ?_;(refine zW ?_;try with_reducible exact True.intro);refine callV_of (isNaNi_spec _) (by first | rfl | (split<;>rfl)) ?_;((try refine zW ?_);(try with_reducible exact True.intro)))))
   ((try refine zO ?_);(try with_reducible exact True.intro))
   (repeat(first | ((refine zW ?_;try with_reducible exact True.intro)) | (refine at_call 200 ?_;(refine zW ?_;try with_reducible exact True.intro);refine callA_of (isNaNi_spec _) zB ?_;((try refine zW ?_);(try with_reducible exact True.intro))) | (refine at_dcall ?_;(refine zW ?_;try with_reducible exact True.intro);refine callA_of (isNaNi_spec _) zB ?_;((try refine zW ?_);(try with_reducible exact True.intro))) | (refine at_call 200 ?_;(refine zW ?_;try with_reducible exact True.intro);refine callA_view ?_;(refine zW ?_;try with_reducible exact True.intro);refine callV_of (isNaNi_spec _) (by first | rfl | (split<;>rfl)) ?_;((try refine zW ?_);(try with_reducible exact True.intro))) | (refine at_dcall ?_;(refine zW ?_;try with_reducible exact True.intro);refine callA_view ?_;(refine zW ?_;try with_reducible exact True.intro);refine callV_of (isNaNi_spec _) (by first | rfl | (split<;>rfl)) ?_;((try refine zW ?_);(try with_reducible exact True.intro)))))
  ·(repeat(first | ((refine zW ?_;try with_reducible exact True.intro)) | (refine at_call 200 ?_;(refine zW ?_;try with_reducible exact True.intro);refine callA_of (isNaNi_spec _) zB ?_;((try refine zW ?_);(try with_reducible exact True.intro))) | (refine at_dcall ?_;(refine zW ?_;try with_reducible exact True.intro);refine callA_of (isNaNi_spec _) zB ?_;((try refine zW ?_);(try with_reducible exact True.intro))) | (refine at_call 200 ?_;(refine zW ?_;try with_reducible exact True.intro);refine callA_view ?_;(refine zW ?_;try with_reducible exact True.intro);refine callV_of (isNaNi_spec _) (by first | rfl | (split<;>rfl)) ?_;((try refine zW ?_);(try with_reducible exact True.intro))) | (refine at_dcall ?_;(refine zW ?_;try with_reducible exact True.intro);refine callA_view ?_;(refine zW ?_;try with_reducible exact True.intro);refine callV_of (isNaNi_spec _) (by first | rfl | (split<;>rfl)) ?_;((try refine zW ?_);(try with_reducible exact True.intro)))))
   ((try refine zO ?_);(try with_reducible exact True.intro))
   (repeat(first | ((refine zW ?_;try with_reducible exact True.intro)) | (refine at_call 200 ?_;(refine zW ?_;try with_reducible exact True.intro);refine callA_of (isNaNi_spec _) zB ?_;((try refine zW ?_);(try with_reducible exact True.intro))) | (refine at_dcall ?_;(refine zW ?_;try with_reducible exact True.intro);refine callA_of (isNaNi_spec _) zB ?_;((try refine zW ?_);(try with_reducible exact True.intro))) | (refine at_call 200 ?_;(refine zW ?_;try with_reducible exact True.intro);refine callA_view ?_;(refine zW ?_;try with_reducible exact True.intro);refine callV_of (isNaNi_spec _) (by first | rfl | (split<;>rfl)) ?_;((try refine zW ?_);(try with_reducible exact True.intro))) | (refine at_dcall ?_;(refine zW ?_;try with_reducible exact True.intro);refine callA_view ?_;(refine zW ?_;try with_reducible exact True.intro);refine callV_of (isNaNi_spec _) (by first | rfl | (split<;>rfl)) ?_;((try refine zW ?_);(try with_reducible exact True.intro)))))
theorem cmpM_spec (x:Int × Int) (q:Int):Pure Tryz.prog 71 [.agg [sci .i64 x.1,sci .i64 x.2],sci .i64 q] (sci .i64 (cmpI x.1 q)):=by
 refine pcall0 200 (fn:=Tryz.f71) Tryz.func71 rfl (by simp [Tryz.ntmps71]) zB zB fun hs=>?_
 ((try refine zW ?_);(try with_reducible exact True.intro))
 (refine at_call 200 ?_;(refine zW ?_;try with_reducible exact True.intro);refine callA_of (CompareI_spec _ _) zB ?_;((try refine zW ?_);(try with_reducible exact True.intro)))
abbrev cmpF:IV:= .p (.sc (.func (.func 71) #[] #[]))
@[go_sem] theorem tcsF:tcs Tryz.prog 153= []:=by kernel_rfl
theorem mid_of {i j:Nat} (h:i+j < 100000):IntKind.i64.wrap ((IntKind.u64.wrap ((i:Int)+(j:Int))).fdiv (2 ^ min 1 64))=(((i+j) / 2:Nat):Int):=by
 have e1:IntKind.u64.wrap ((i:Int)+(j:Int))=((i+j:Nat):Int):=by rw [IntKind.wrap_u64];omega
 have e2:(2:Int) ^ min 1 64=2:=by decide
 rw [e1,e2,Int.fdiv_eq_ediv_of_nonneg _ (by decide),IntKind.wrap_i64];omega
def posL (q:Int):List (Int × Int)→Nat
 | []=>0
 | x::r=>if x.1 < q then posL q r+1 else 0
theorem pos_is (q:Int): ∀(l:List (Int × Int)) (i:Nat) (hi:i≤l.length),(∀(k:Nat) (h:k < l.length),k < i→l[k].1 < q)→(∀h:i < l.length,¬l[i].1 < q)→posL q l=i
 | [],i,hi,_,_=>by simp at hi;rw [hi];rfl
 | x::r,0,_,_,h2=>by unfold posL;rw [if_neg (show ¬x.1 < q from h2 (by simp))]
 | x::r,i+1,hi,h1,h2=>by
   unfold posL
   rw [if_pos (show x.1 < q from h1 0 (by simp) (by omega)),pos_is q r i (by simpa using hi) (fun k h hk=>h1 (k+1) (Nat.succ_lt_succ h) (by omega)) (fun h=>h2 (Nat.succ_lt_succ h))]
def Up (l:List (Int × Int)):Prop:= ∀(a b:Nat) (hb:b < l.length) (hab:a < b),l[a].1 < l[b].1
theorem BS_spec (l:List (Int × Int)) (q:Int) (hu:Up l) (hn:l.length≤1000):Pure Tryz.prog 70 [lII l,sci .i64 q,cmpF]
  (.tup [sci .i64 (posL q l),scb (tB (∃x,l[posL q l]? =some x∧x.1=q))]):=by
 refine pcall0 200 (fn:=Tryz.f70) Tryz.func70 rfl (by simp [Tryz.ntmps70]) zB zB fun hs=>?_
 ((try refine zW ?_);(try with_reducible exact True.intro))
 refine walk_loop 200 200 (fun p:Nat × Nat=>(p.1≤p.2∧p.2≤l.length)∧(∀(k:Nat) (h:k < l.length),k < p.1→l[k].1 < q)∧(∀(k:Nat) (h:k < l.length),p.2≤k→ ¬l[k].1 < q))
  (fun p=>⟨49, [(0,lII l),(1,sci .i64 q),(2,cmpF),(8,sci .i64 l.length),(9,sci .i64 (p.1:Int)),(10,sci .i64 (p.2:Int))], [],0, []⟩) (fun p=>p.2 - p.1) (0,l.length) ?_ ?_ ?_
 ·exact⟨⟨Nat.zero_le _,Nat.le_refl _⟩,fun k h hk=>by simp at hk,fun k h hk=>by simp only at hk;omega⟩
 ·constructor<;>(try simp (disch:=omega) only [go_sem,simprocAttr,zD,zE,Int.natCast_zero])
 ·rintro⟨i,j⟩ ⟨⟨i1,i2⟩,i3,i4⟩
  simp only at i1 i2 i3 i4
  ((try refine zW ?_);(try with_reducible exact True.intro))
  by_cases hij:i < j
  ·have hij':(i:Int) < (j:Int):=by omega
   (try simp (disch:=omega) only [go_sem,simprocAttr,zD,zE,hij'])
   obtain⟨h,hmh,h1,h2⟩: ∃h:Nat,IntKind.i64.wrap ((IntKind.u64.wrap ((i:Int)+(j:Int))).fdiv (2 ^ min 1 64))=(h:Int)∧i≤h∧h < j:=⟨(i+j) / 2,mid_of (by omega),by omega,by omega⟩
   have hl:h < l.length:=by omega
   have lo: ∀(k:Nat) (hk:k < l.length),k < h→l[k].1 < l[h].1:=fun k hk q=>hu k h hl q
   have hi: ∀(k:Nat) (hk:k < l.length),h < k→l[h].1 < l[k].1:=fun k hk q=>hu h k hk q
   (try simp (disch:=omega) only [go_sem,simprocAttr,zD,zE,hmh,eII])
   generalize hx:l[h]=x at *
   obtain⟨sq,lt⟩:=x
   (refine at_call 200 ?_;(refine zW ?_;try with_reducible exact True.intro);refine callA_of (cmpM_spec (sq,lt) q) zB ?_;((try refine zW ?_);(try with_reducible exact True.intro)))
   by_cases hc:sq < q
   ·have ec:cmpI sq q= -1:=by unfold cmpI;rw [if_pos hc]
    (try simp (disch:=omega) only [go_sem,simprocAttr,zD,zE,ec])
    refine⟨(h+1,j),⟨⟨by omega,i2⟩,fun k hk kk=>?_,i4⟩,by simp only;omega,?_⟩
    ·rcases Nat.lt_or_ge k h with g | g
     ·have:=lo k hk g;simp only at this;omega
     ·obtain rfl:k=h:=by simp only at kk;omega
      rw [hx];exact hc
    ·constructor<;>((try refine zO ?_);(try with_reducible exact True.intro))
   ·have ec: ¬cmpI sq q < 0:=by unfold cmpI;rw [if_neg hc];split<;>omega
    (try simp (disch:=omega) only [go_sem,simprocAttr,zD,zE,ec])
    refine⟨(i,h),⟨⟨h1,by simp only;omega⟩,i3,fun k hk kk=>?_⟩,by simp only;omega,?_⟩
    ·rcases Nat.lt_or_ge h k with g | g
     ·have:=hi k hk g;simp only at this;omega
     ·obtain rfl:k=h:=by simp only at kk;omega
      rw [hx];exact hc
    ·constructor<;>((try refine zO ?_);(try with_reducible exact True.intro))
  ·obtain rfl:j=i:=by omega
   have hp:posL q l=j:=pos_is q l j i2 i3 fun h=>i4 j h (Nat.le_refl _)
   rw [hp]
   by_cases hj:j < l.length
   ·have ge:=i4 j hj (Nat.le_refl _)
    have eg:l[j]? =some l[j]:=List.getElem?_eq_getElem hj
    (try simp (disch:=omega) only [go_sem,simprocAttr,zD,zE,eII])
    generalize l[j]=x at *
    obtain⟨sq,lt⟩:=x
    (refine at_call 200 ?_;(refine zW ?_;try with_reducible exact True.intro);refine callA_of (cmpM_spec (sq,lt) q) zB ?_;((try refine zW ?_);(try with_reducible exact True.intro)))
    by_cases hc:sq=q
    ·have ec:cmpI sq q=0:=by unfold cmpI;simp only at ge;rw [if_neg ge,if_neg (by omega)]
     have e:tB (∃x,l[j]? =some x∧x.1=q)=true:=tB_pos ⟨_,eg,hc⟩
     (try simp (disch:=omega) only [go_sem,simprocAttr,zD,zE,ec,e])
    ·have ec:cmpI sq q=1:=by unfold cmpI;simp only at ge;rw [if_neg ge,if_pos (by omega)]
     have e:tB (∃x,l[j]? =some x∧x.1=q)=false:=tB_neg fun⟨x,h1,h2⟩=>by rw [eg] at h1;cases h1;exact hc h2
     (try simp (disch:=omega) only [go_sem,simprocAttr,zD,zE,ec,e])
   ·have e:tB (∃x,l[j]? =some x∧x.1=q)=false:=tB_neg fun⟨x,h1,h2⟩=>by rw [List.getElem?_eq_none (by omega)] at h1;cases h1
    (try simp (disch:=omega) only [go_sem,simprocAttr,zD,zE,e])
end Go.Proofs.HO
/- A host takes a message. -/
namespace Go.Proofs.HO
open Go Go.Idl Go.Proofs Go.GP
set_option maxHeartbeats 20000000
set_option maxRecDepth 100000
def zH:Hs:=⟨0,0,0, [], []⟩
noncomputable def takeH (ls:List (Int × Int)) (st:St) (h:Hs) (x:Int) (m:Int × Int):Hs × Int:=
 if indexL x 0 (ins h.node 0 ls) < 0∨m.1 < 1∨500 < m.1∨m.2 < 0∨4≤m.2 then(zH,1)
 else match h.inn[(indexL x 0 (ins h.node 0 ls)).toNat]?,ls[x.toNat]? with
 | some l,some lk=>if tB (∃y,l[posL m.1 l]? =some y∧y.1=m.1)=true then(zH,1)
   else(⟨h.node,takenL lk.1 m.2 h.state st.takes,h.steps+1,h.inn.set (indexL x 0 (ins h.node 0 ls)).toNat (l.take (posL m.1 l)++m::l.drop (posL m.1 l)),h.out⟩,0)
 | _,_=>(zH,1)
theorem rowsAt_get {l:List (List (Int × Int))} {i0 b n i:Nat} (h0:i0 < l.length):(rowsAt l i0 b n i)[i0]? =some [.ref b 0 0 n]:=by
 unfold rowsAt
 have:(ir eMs (l.take i0)).length=i0:=by simp [ir];omega
 rw [List.getElem?_append_right (by omega),this,Nat.sub_self];rfl
theorem rowsAt_set {l:List (List (Int × Int))} {i0 b n:Nat} (h0:i0 < l.length) {x:List (Int × Int)}:(rowsAt l i0 b n l.length).set i0 [.p (.imm 2 (pr eII x))]=ir eMs (l.set i0 x):=by
 unfold rowsAt
 have hl:(ir eMs (l.take i0)).length=i0:=by simp [ir];omega
 rw [List.set_append_right _ _ (by omega),hl,Nat.sub_self,List.set_cons_zero,List.take_of_length_le (Nat.le_refl _),List.set_eq_take_append_cons_drop,if_pos h0]
 simp [ir,eMs]
theorem posL_le (q:Int): ∀l:List (Int × Int),posL q l≤l.length
 | []=>by simp [posL]
 | x::r=>by
   have:=posL_le q r
   unfold posL
   split<;>simp<;>omega
theorem ir_eII1 {a b:Int}:ir eII [(a,b)]= [[sci .i64 a,sci .i64 b]]:=rfl
theorem ins_mem {n l:Int}: ∀ {ls:List (Int × Int)} {i:Nat},l∈ins n i ls→ ∃j,∃hj:j < ls.length,l=((i+j:Nat):Int)∧ls[j].2=n
 | [],i,h=>by simp [ins] at h
 | x::r,i,h=>by
   unfold ins at h
   have go:l∈ins n (i+1) r→ ∃j,∃hj:j < (x::r).length,l=((i+j:Nat):Int)∧(x::r)[j].2=n:=fun h=>by
    obtain⟨j,hj,e1,e2⟩:=ins_mem h
    exact⟨j+1,by simpa using hj,by rw [e1];congr 1;omega,by simpa using e2⟩
   split at h
   ·rename_i hx
    rcases List.mem_cons.1 h with h | h
    ·exact⟨0,by simp,by simpa using h,by simpa using hx⟩
    ·exact go h
   ·exact go h
@[go_sem] theorem rnRw_rowsAtG {l:List (List (Int × Int))} {i0 k n i:Nat}:rnRw (ridx [] k) (rowsAt l i0 1 n i)=rowsAt l i0 (k+1) n i:=by
  unfold rowsAt
  simp only [go_sem]
theorem Take_spec (s:Sc) (h:Hs) (x:Int) (m:Int × Int) (n j:Nat) (nd:Nd) (st:St) (hn:h.node=n) (hj:h.state=j) (hx:s.T[n]? =some nd) (hq:nd.states[j]? =some st) (hg:gHs h) (hl:s.ls.length≤1000000) (hk:st.takes.length≤1000000)
  (hi:h.inn.length=(ins h.node 0 s.ls).length) (hu: ∀l∈h.inn,Up l∧l.length≤1000) (h0:0≤h.steps∧h.steps≤2147483647):
  Pure Tryz.prog 21 [lApp s,lHs h,sci .i64 x, .agg [sci .i64 m.1,sci .i64 m.2]] (.tup [lHs (takeH s.ls st h x m).1,sci .i64 (takeH s.ls st h x m).2]):=by
 obtain⟨N,ls,T,ff,room,acts⟩:=s
 obtain⟨node,state,steps,inn,out⟩:=h
 obtain⟨q1,q2⟩:=m
 obtain⟨b2,b3,b4,b5⟩:=id hg
 simp only at hn hj hx hl hi hu h0 b2 b3 b4 b5
 subst hn hj
 generalize hres:takeH ls st ⟨n,j,steps,inn,out⟩ x (q1,q2)=res
 unfold takeH at hres
 simp only at hres
 refine pcall0 200 (fn:=Tryz.f21) Tryz.func21 rfl (by simp [Tryz.ntmps21]) zB zB fun hs=>?_
 ((try refine zW ?_);(try with_reducible exact True.intro))
 (refine at_call 200 ?_;(refine zW ?_;try with_reducible exact True.intro);refine callA_of (In_spec N n ls hl) zB ?_;((try refine zW ?_);(try with_reducible exact True.intro)))
 ((try refine zO ?_);(try with_reducible exact True.intro))
 (refine at_call 200 ?_;(refine zW ?_;try with_reducible exact True.intro);refine callA_of (Index_spec _ _) zB ?_;((try refine zW ?_);(try with_reducible exact True.intro)))
 by_cases c1:indexL x 0 (ins n 0 ls) < 0
 ·rw [if_pos (.inl c1)] at hres
  subst hres
  (try simp (maxSteps:=2000000) (disch:=omega) only [go_sem,simprocAttr,zD,zE,c1,zH])
 by_cases c2:q1 < 1
 ·rw [if_pos (.inr (.inl c2))] at hres
  subst hres
  (try simp (maxSteps:=2000000) (disch:=omega) only [go_sem,simprocAttr,zD,zE,c1,c2,zH])
 by_cases c3:500 < q1
 ·rw [if_pos (.inr (.inr (.inl c3)))] at hres
  subst hres
  (try simp (maxSteps:=2000000) (disch:=omega) only [go_sem,simprocAttr,zD,zE,c1,c2,c3,zH])
 by_cases c4:q2 < 0
 ·rw [if_pos (.inr (.inr (.inr (.inl c4))))] at hres
  subst hres
  (try simp (maxSteps:=2000000) (disch:=omega) only [go_sem,simprocAttr,zD,zE,c1,c2,c3,c4,zH])
 by_cases c5:4≤q2
 ·rw [if_pos (.inr (.inr (.inr (.inr c5))))] at hres
  subst hres
  (try simp (maxSteps:=2000000) (disch:=omega) only [go_sem,simprocAttr,zD,zE,c1,c2,c3,c4,c5,zH])
 rw [if_neg (fun q=>q.elim c1 fun q=>q.elim c2 fun q=>q.elim c3 fun q=>q.elim c4 c5)] at hres
 rcases indexL_at x (ins n 0 ls) with e | ⟨i,e,hil,hig⟩
 ·exact absurd (by omega) c1
 have lin:i < inn.length:=by omega
 rw [e,Int.toNat_natCast,List.getElem?_eq_getElem lin] at hres
 obtain⟨kx,hkx,rfl,hlk⟩:=ins_mem (List.mem_of_getElem? hig)
 simp only [Nat.zero_add] at hig e hres
 rw [Int.toNat_natCast,List.getElem?_eq_getElem hkx] at hres
 simp only at hres
 obtain⟨hup,hrl⟩:=hu _ (List.getElem_mem lin)
 have hblk:=hownIn_blk ⟨n,j,steps,inn,out⟩ hg i lin
 simp only at hblk
 generalize hrow:inn[i]=row at *
 generalize hlx:ls[kx]=lk at *
 obtain⟨la,lb⟩:=lk
 have c1': ¬((i:Int) < 0):=by omega
 (try simp (maxSteps:=2000000) (disch:=omega) only [go_sem,simprocAttr,zD,zE,e,c1',c2,c3,c4,c5])
 (refine walk_trim [2,4,5,7,8,10,40] trivial zL ?_;(refine zW ?_;try with_reducible exact True.intro);refine irun_walk (id:=4) (n:=200) [none,none,none,none,none,none,none,some [],none,none,none,none,none] mixed (by kernel_rfl) ?_)
 (try simp (maxSteps:=2000000) (disch:=omega) only [go_sem,simprocAttr,zD,zE,eMs,hrow])
 (refine at_dcall ?_;(refine zW ?_;try with_reducible exact True.intro);refine callA_of (BS_spec row q1 hup hrl) zB ?_;((try refine zW ?_);(try with_reducible exact True.intro)))
 cases hf:tB (∃y,row[posL q1 row]? =some y∧y.fst=q1) with
 | true=>
   rw [hf,if_pos rfl] at hres
   subst hres
   (try simp (maxSteps:=2000000) (disch:=omega) only [go_sem,simprocAttr,zD,zE,hf,zH])
 | false=>
   rw [hf,if_neg (by decide)] at hres
   subst hres
   (try simp (maxSteps:=2000000) (disch:=omega) only [go_sem,simprocAttr,zD,zE,hf])
   (refine at_gr 200 ?_;(refine zW ?_;try with_reducible exact True.intro);refine callG_of [] (hblk) zU ?_;((try refine zW ?_);(try with_reducible exact True.intro)))
   have hg1:=rowsAt_get (l:=inn) (i0:=i) (b:=5) (n:=row.length) (i:=inn.length) lin
   ((try refine zO ?_);(try with_reducible exact True.intro))
   (refine walk_trim [2,4,5,7,8,10,11,13,40] trivial zL ?_;((try refine zW ?_);(try with_reducible exact True.intro)))
   refine irun_walkD (id:=8) (n:=200) [none,none,none,none,none,none,none,none,none,none,some [0,1,2,3,4,5,6,7,8],some [0,1,2],none,some []] mixed (by kernel_rfl) (drun_split 10 ?_)
   simp only [List.take_succ_cons,List.take_zero,List.drop_succ_cons,List.drop_zero]
   (try simp (maxSteps:=2000000) only [go_sem,simprocAttr,lin,hg1])
   refine drun_lit (zs:= [(0, .agg [sci .i64 q1,sci .i64 q2])]) (sz:=2) (cs:= [sci .i64 q1,sci .i64 q2]) ?_ ?_ ?_ ?_ ?_
   ·rfl
   ·((try refine zW ?_);(try with_reducible exact True.intro))
   ·(try simp (maxSteps:=2000000) only [go_sem,simprocAttr,flit])
   ·rfl
   (try simp (maxSteps:=2000000) only [go_sem,simprocAttr,chunk])
   (refine at_dg ?_;(refine zW ?_;try with_reducible exact True.intro);refine callG_of [5,7] (Insert_spec row (q1,q2) (posL q1 row) (posL_le q1 row) (by omega)) (by simp (maxSteps:=2000000) (disch:=omega) only [go_sem,simprocAttr,zD,zE,ir_eII1]) ?_;((try refine zW ?_);(try with_reducible exact True.intro)))
   (try simp (maxSteps:=2000000) only [go_sem,simprocAttr,lin,hg1,rowsAt_set lin])
   (refine walk_trim [2,4,5,7,8,13,40] trivial zL ?_;(refine zW ?_;try with_reducible exact True.intro);refine irun_walk (id:=9) (n:=200) [none,none,none,none,none,none,none,none,none,none,none,none,none,none,none,some [],none,some []] mixed (by kernel_rfl) ?_)
   (try simp (maxSteps:=2000000) (disch:=omega) only [go_sem,simprocAttr,zD,zE,hlx,eII])
   (refine at_dcall ?_;(refine zW ?_;try with_reducible exact True.intro);refine callA_of (Taken_spec T n j nd st hx hq la q2 hk) zB ?_;((try refine zW ?_);(try with_reducible exact True.intro)))
   ((try refine zO ?_);(try with_reducible exact True.intro))
   rw [List.take_of_length_le (by simp)]
end Go.Proofs.HO
