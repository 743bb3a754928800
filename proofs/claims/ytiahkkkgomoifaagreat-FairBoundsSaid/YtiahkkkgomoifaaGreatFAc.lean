/- How a bound grows: the law's walk. -/
import Derived.Test.YtiahkkkgomoifaaGreatFAb
import Derived.Test.YtiahkkkgomoifaaGreatFM
set_option linter.unusedSimpArgs false
set_option linter.unusedVariables false
namespace Go.Proofs.FA
open Go Go.Idl Go.Proofs Go.GP
set_option maxHeartbeats 20000000
set_option maxRecDepth 100000
theorem lapp_cons {α:Type} {x:α} {l m:List α}:List.append (x::l) m=x::List.append l m:=(rfl)
theorem lapp_nil {α:Type} {m:List α}:List.append [] m=m:=(rfl)
theorem full_le: ∀k2,k2≤6→ ∀k,k≤k2→(fullTo k k).length≤(fullTo k2 k2).length:=by
 intro k2 h2 k h
 have: ∀a:Fin 7,∀b:Fin 7,b.1≤a.1→(fullTo b.1 b.1).length≤(fullTo a.1 a.1).length:=by decide+kernel
 exact this ⟨k2,by omega⟩ ⟨k,by omega⟩ h
theorem full_30 (k:Nat) (h:k≤6):(fullTo k k).length≤30:=by
 have: ∀a:Fin 7,(fullTo a.1 a.1).length≤30:=by decide+kernel
 exact this ⟨k,by omega⟩
theorem FairBounds_pure (n m:Int) (u v:Int) (hu:0≤u∧u < 65536) (hv:0≤v∧v < 65536):
  Pure Tryz.prog 5 [sci .i64 n,sci .i64 m, .agg [.p (.sc (.int .u16 u)), .p (.sc (.int .u16 v))]] (scb true):=by
 obtain⟨k,hk,ek⟩: ∃k:Nat,(1≤k∧k≤6)∧cl n=k:=⟨(cl n).toNat,by unfold cl;split<;>split<;>omega,by unfold cl;split<;>split<;>omega⟩
 obtain⟨k2,hk2,ek2⟩: ∃k:Nat,(1≤k∧k≤6)∧cl (if n < m then m else n)=k:=⟨(cl (if n < m then m else n)).toNat,by unfold cl;split<;>split<;>split<;>omega,by unfold cl;split<;>split<;>split<;>omega⟩
 have hkk:k≤k2:=by
  have:cl n≤cl (if n < m then m else n):=by
   unfold cl
   by_cases h:n < m
   ·rw [if_pos h];(repeat' split)<;>omega
   ·rw [if_neg h];exact Int.le_refl _
  omega
 have l1:=full_30 k hk.2
 have l2:=full_30 k2 hk2.2
 have l3:=full_le k2 hk2.2 k hkk
 obtain⟨ls,els⟩: ∃ls,fullTo k k=ls:=⟨_,rfl⟩
 obtain⟨ls2,els2⟩: ∃ls,fullTo k2 k2=ls:=⟨_,rfl⟩
 have F1:=Full_spec n k hk ek
 have F2:=Full_spec _ k2 hk2 ek2
 rw [els] at F1 l1 l3
 rw [els2] at F2 l2 l3
 obtain⟨w,ew,hw⟩: ∃w,Int.tmod u 1000=w∧0≤w∧w < 1000:=⟨_,rfl,Int.tmod_nonneg _ hu.1,Int.tmod_lt_of_pos _ (by decide)⟩
 obtain⟨p,ep,hp⟩: ∃w,Int.tmod v 1000=w∧0≤w∧w < 1000:=⟨_,rfl,Int.tmod_nonneg _ hv.1,Int.tmod_lt_of_pos _ (by decide)⟩
 have B: ∀w' p', -2000≤w'∧w'≤2000→ -2000≤p'∧p'≤2000→Pure Tryz.prog 18 [eG k ls,sci .i64 w',sci .i64 p'] (sci .i64 (bnd ls.length k w' p')):=fun w' p' h1 h2=>Bound_spec k ls w' p' (by omega) (by omega) h1 h2
 have C:=Bound_spec k2 ls2 w p (by omega) (by omega) (by omega) (by omega)
 have b0:=B w p (by omega) (by omega)
 have b1:=B (w+1) p (by omega) (by omega)
 have b2:=B w (p+1) (by omega) (by omega)
 have b4:=B 0 p (by omega) (by omega)
 have b5:=B (0 - w) p (by omega) (by omega)
 have b6:=B w (0 - p) (by omega) (by omega)
 have b7:=B w 0 (by omega) (by omega)
 have q0:bnd ls.length k w p=w * (p+2 * (ls.length:Int)+k):=by unfold bnd;rw [if_neg (by omega),if_neg (by omega)]
 have q1:bnd ls.length k (w+1) p=bnd ls.length k w p+p+2 * (ls.length:Int)+k:=by
  rw [q0];unfold bnd;rw [if_neg (by omega),if_neg (by omega),Int.add_mul];omega
 have q2:bnd ls.length k w (p+1)=bnd ls.length k w p+w:=by
  rw [q0];unfold bnd;rw [if_neg (by omega),if_neg (by omega),show p+1+2 * (ls.length:Int)+k=(p+2 * (ls.length:Int)+k)+1 by omega,Int.mul_add,Int.mul_one]
 have q3:bnd ls.length k w p≤bnd ls2.length k2 w p:=by
  rw [q0];unfold bnd;rw [if_neg (by omega),if_neg (by omega)]
  exact Int.mul_le_mul_of_nonneg_left (by omega) hw.1
 have q4:bnd ls.length k 0 p=0:=by unfold bnd;rw [if_neg (by omega),Int.zero_mul]
 have q5:bnd ls.length k (0 - w) p=0:=by
  unfold bnd
  split
  ·rw [Int.zero_mul]
  ·rw [show 0 - w=0 by omega,Int.zero_mul]
 have q6:bnd ls.length k w (0 - p)=bnd ls.length k w 0:=by
  unfold bnd
  rw [if_neg (show ¬(0:Int) < 0 by omega)]
  congr 2
  split<;>omega
 have q8:0≤bnd ls.length k w p∧bnd ls.length k w p≤3000000:=by
  rw [q0]
  exact⟨Int.mul_nonneg hw.1 (by omega),Int.le_trans (Int.mul_le_mul (show w≤1000 by omega) (show p+2 * (ls.length:Int)+k≤3000 by omega) (by omega) (by omega)) (by decide)⟩
 generalize bnd ls.length k w p=B0 at *
 generalize bnd ls.length k (w+1) p=B1 at *
 generalize bnd ls.length k w (p+1)=B2 at *
 generalize bnd ls2.length k2 w p=B3 at *
 generalize bnd ls.length k 0 p=B4 at *
 generalize bnd ls.length k (0 - w) p=B5 at *
 generalize bnd ls.length k w (0 - p)=B6 at *
 generalize bnd ls.length k w 0=B7 at *
 subst q1 q2 q4 q5 q6
 refine pcall0 200 (fn:=Tryz.f5) Tryz.func5 rfl (by simp [Tryz.ntmps5]) zB zB fun hs=>?_
 ((try refine zW ?_);(try with_reducible exact True.intro))
 (refine at_call 200 ?_;(refine zW ?_;try with_reducible exact True.intro);refine callA_of (F1) zB ?_;((try refine zW ?_);(try with_reducible exact True.intro)))
 ((try refine zW ?_);(try with_reducible exact True.intro))
 (refine at_call 200 ?_;(refine zW ?_;try with_reducible exact True.intro);refine callA_of (F2) zB ?_;((try refine zW ?_);(try with_reducible exact True.intro)))
 ((try refine zW ?_);(try with_reducible exact True.intro))
 (refine walk_trim [5,7,8] trivial zL ?_;(refine zW ?_;try with_reducible exact True.intro);refine irun_walk (id:=2) (n:=200) [none,none,none,none,none,none,none,none,none,none] mixed (by kernel_rfl) ?_)
 (try simp (maxSteps:=2000000) (disch:=omega) only [go_sem,simprocAttr,zD,zE,ew,ep])
 (refine at_call 200 ?_;(refine zW ?_;try with_reducible exact True.intro);refine callA_of (b0) zB ?_;((try refine zW ?_);(try with_reducible exact True.intro)))
 ((try refine zW ?_);(try with_reducible exact True.intro))
 (refine walk_trim [7,8,9,10,11] trivial zL ?_;(refine zW ?_;try with_reducible exact True.intro);refine irun_walk (id:=4) (n:=200) (none::none::none::none::none::none::none::some [8,9,10,11,12,13,14,15,16,17,18]::none::none::none::none::none::none::none::none::none::none::none::none::none::none::none::none::none::none::some [27,28,29]::none::none::none::none::none::none::none::none::none::some [37]::none::none::none::none::none::none::some []::none::none::none::none::none::none::none::some []::none::none::none::none::none::none::none::some [60,61]::none::none::some []::none::none::none::some []::none::none:: []) mixed (by kernel_rfl) ?_)
 simp only [lapp_cons,lapp_nil]
 ((try refine zO ?_);(try with_reducible exact True.intro))
 (refine at_dcall ?_;(refine zW ?_;try with_reducible exact True.intro);refine callA_of (b1) zB ?_;((try refine zW ?_);(try with_reducible exact True.intro)))
 ((try refine zO ?_);(try with_reducible exact True.intro))
 (refine at_dcall ?_;(refine zW ?_;try with_reducible exact True.intro);refine callA_of (b2) zB ?_;((try refine zW ?_);(try with_reducible exact True.intro)))
 ((try refine zO ?_);(try with_reducible exact True.intro))
 (refine at_dcall ?_;(refine zW ?_;try with_reducible exact True.intro);refine callA_of (C) zB ?_;((try refine zW ?_);(try with_reducible exact True.intro)))
 (try simp (maxSteps:=2000000) (disch:=omega) only [go_sem,simprocAttr,zD,zE,q3])
 (refine at_dcall ?_;(refine zW ?_;try with_reducible exact True.intro);refine callA_of (b4) zB ?_;((try refine zW ?_);(try with_reducible exact True.intro)))
 ((try refine zO ?_);(try with_reducible exact True.intro))
 (refine at_dcall ?_;(refine zW ?_;try with_reducible exact True.intro);refine callA_of (b5) zB ?_;((try refine zW ?_);(try with_reducible exact True.intro)))
 ((try refine zO ?_);(try with_reducible exact True.intro))
 (refine at_dcall ?_;(refine zW ?_;try with_reducible exact True.intro);refine callA_of (b6) zB ?_;((try refine zW ?_);(try with_reducible exact True.intro)))
 ((try refine zO ?_);(try with_reducible exact True.intro))
 (refine at_dcall ?_;(refine zW ?_;try with_reducible exact True.intro);refine callA_of (b7) zB ?_;((try refine zW ?_);(try with_reducible exact True.intro)))
 ((try refine zO ?_);(try with_reducible exact True.intro))
 (refine at_dcall ?_;(refine zW ?_;try with_reducible exact True.intro);refine callA_of (fixed_spec) zB ?_;((try refine zW ?_);(try with_reducible exact True.intro)))
 ((try refine zO ?_);(try with_reducible exact True.intro))
end Go.Proofs.FA
