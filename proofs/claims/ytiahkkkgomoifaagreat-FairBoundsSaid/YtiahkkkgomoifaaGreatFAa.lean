/- Which links are in turn; whether an order has all. -/
import Derived.Test.YtiahkkkgomoifaaGreatFTypes
import Derived.Test.YtiahkkkgomoifaaGreatIdCn
import Derived.Test.YtiahkkkgomoifaaGreatIdPd
import Derived.Test.YtiahkkkgomoifaaGreatGP
set_option linter.unusedSimpArgs false
set_option linter.unusedVariables false
namespace Go.Proofs.FA
open Go Go.Idl Go.Proofs Go.GP
set_option maxHeartbeats 20000000
set_option maxRecDepth 100000
noncomputable def tB (P:Prop):Bool:= @decide P (Classical.propDecidable P)
theorem tB_iff {P:Prop}:tB P=true↔P:= @decide_eq_true_iff P (Classical.propDecidable P)
theorem tB_pos {P:Prop} (h:P):tB P=true:=tB_iff.2 h
theorem tB_neg {P:Prop} (h: ¬P):tB P=false:=Bool.eq_false_iff.2 fun q=>h (tB_iff.1 q)
theorem tB_dec {P:Prop} [Decidable P]:tB P=decide P:=by
 by_cases h:P
 ·rw [tB_pos h];simp [h]
 ·rw [tB_neg h];simp [h]
theorem tB_not {P:Prop}:(!tB P)=tB (¬P):=by
 by_cases h:P
 ·rw [tB_pos h,tB_neg (fun q=>q h)];rfl
 ·rw [tB_neg h,tB_pos h];rfl
theorem tB_congr {P R:Prop} (h:P↔R):tB P=tB R:=by rw [propext h]
theorem ir_snoc {α:Type} (f:α→List PV) (l:List α) (x:α):ir f (l++ [x])=ir f l++ [(f x).map .p]:=by simp [ir]
def rng (a:Nat):List Int:=(List.range a).map fun q:Nat=>(q:Int)
theorem rng_len (a:Nat):(rng a).length=a:=by simp [rng]
theorem rng_succ (a:Nat):rng (a+1)=rng a++ [(a:Int)]:=by simp [rng,List.range_succ]
theorem rng_take (a:Nat):(rng a).take a=rng a:=List.take_of_length_le (by rw [rng_len];exact Nat.le_refl _)
def indexL (a:Int):Nat→List Int→Int
 | _, []=> -1
 | i,x::r=>if a=x then i else indexL a (i+1) r
theorem Index_spec (l:List Int) (a:Int):Pure Tryz.prog 80 [lI l,sci .i64 a] (sci .i64 (indexL a 0 l)):=by
 refine pcall0 200 (fn:=Tryz.f80) Tryz.func80 rfl (by simp [Tryz.ntmps80]) zB zB fun hs=>?_
 simp only [go_sem,simprocAttr,maxLen] at hs
 ((try refine zO ?_);(try with_reducible exact True.intro))
 refine walk_floop 200 200 (fun i:Nat=>i≤l.length∧indexL a i (l.drop i)=indexL a 0 l)
  (fun i=>⟨19, [(0,lI l),(1,sci .i64 a),(7,sci .i64 l.length),(8,sci .i64 i)], [],0, []⟩) (fun i=>l.length - i) (0) [] ?_ ?_ ?_
 ·simp
 ·constructor<;>(try simp (disch:=omega) only [go_sem,simprocAttr,zD,zE,Int.natCast_zero,List.take_of_length_le,List.append_assoc])
 ·rintro i hi
  obtain⟨hi,hinvi⟩:=hi
  ((try refine zW ?_);(try with_reducible exact True.intro))
  by_cases li:i < l.length
  ·rw [drop_cons li,indexL] at hinvi
   by_cases e:a=l[i]
   ·rw [if_pos e] at hinvi
    (try simp (disch:=omega) only [go_sem,simprocAttr,zD,zE,eI,←e,←hinvi])
   ·rw [if_neg e] at hinvi
    (try simp (disch:=omega) only [go_sem,simprocAttr,zD,zE,eI,e])
    refine⟨i+1, [],⟨by first | assumption | omega,hinvi⟩,?_,?_⟩
    ·(try simp only []);omega
    ·constructor<;>(try simp (disch:=omega) only [go_sem,simprocAttr,zD,zE,List.append_assoc])
  ·obtain rfl:i=l.length:=by omega
   rw [List.drop_length] at hinvi
   (try simp (disch:=omega) only [go_sem,simprocAttr,zD,zE,←hinvi,indexL])
theorem indexL_mem {a:Int}: ∀ {l:List Int} {i:Nat},0≤indexL a i l↔a∈l
 | [],i=>by simp [indexL]
 | x::r,i=>by
   unfold indexL
   split
   ·rename_i e;simp [e]
   ·rename_i e;rw [indexL_mem,List.mem_cons];simp [e]
theorem Contains_spec (l:List Int) (a:Int):Pure Tryz.prog 47 [lI l,sci .i64 a] (scb (decide (a∈l))):=by
 refine pcall0 200 (fn:=Tryz.f47) Tryz.func47 rfl (by simp [Tryz.ntmps47]) zB zB fun hs=>?_
 ((try refine zW ?_);(try with_reducible exact True.intro))
 (refine at_call 200 ?_;(refine zW ?_;try with_reducible exact True.intro);refine callA_of (Index_spec _ _) zB ?_;((try refine zW ?_);(try with_reducible exact True.intro)))
 have e:=indexL_mem (a:=a) (l:=l) (i:=0)
 (try simp (disch:=omega) only [go_sem,simprocAttr,zD,zE,e])
theorem Turn_spec (n:Nat) (hn:n≤1000):Pure Tryz.prog 15 [sci .i64 n] (lI (rng n)):=by
 have e0:((n:Int) < 0)=False:=eq_false (by omega)
 refine pcall0 200 (fn:=Tryz.f15) Tryz.func15 rfl (by simp [Tryz.ntmps15]) zB zB fun hs=>?_
 (try simp only [go_sem,simprocAttr,e0])
 refine walk_own 3 1 trivial rfl (.inr rfl) ?_
 (refine walk_trim [3,6,7] trivial zL ?_;((try refine zW ?_);(try with_reducible exact True.intro)))
 refine walk_floop 200 200 (fun a:Nat × Nat=>a.1≤n)
  (fun a=>⟨16, [(3, .ref 0 a.2 0 a.1),(6,sci .i64 n),(7,sci .i64 a.1)], [],1, [(0, .arr 1 a.2 (ir eI (rng a.1)))]⟩) (fun a=>n - a.1) (0,0) [] ?_ ?_ ?_
 ·simp
 ·constructor<;>(try simp (disch:=omega) only [go_sem,simprocAttr,zD,zE,Int.natCast_zero,List.take_of_length_le,List.append_assoc,rng,List.range_zero,List.map_nil])
 ·rintro⟨a,b⟩ ha
  simp only at ha
  ((try refine zW ?_);(try with_reducible exact True.intro))
  by_cases la:a < n
  ·((try refine zO ?_);(try with_reducible exact True.intro))
   refine⟨(a+1,b+1), [],by first | assumption | omega,?_,?_⟩
   ·(try simp only []);omega
   ·constructor<;>(try simp (disch:=omega) only [go_sem,simprocAttr,zD,zE,rng_succ,rng_len,Nat.min_self,rng_take,List.append_assoc])
  ·obtain rfl:a=n:=by omega
   (try simp (disch:=omega) only [go_sem,simprocAttr,zD,zE,rng_len,rng_take])
def allL (order:List Int) (n:Nat):Prop:= ∀i,i < n→(i:Int)∈order
theorem none_spec (order:List Int) (l:Int):Pure Tryz.prog 46 [sci .i64 l, .p (.rp [.imm 1 (pr eI order)])] (scb (!decide (l∈order))):=by
 refine pcall0 200 (fn:=Tryz.f46) Tryz.func46 rfl (by simp [Tryz.ntmps46]) zB zB fun hs=>?_
 ((try refine zW ?_);(try with_reducible exact True.intro))
 (refine at_call 200 ?_;(refine zW ?_;try with_reducible exact True.intro);refine callA_of (Contains_spec _ _) zB ?_;((try refine zW ?_);(try with_reducible exact True.intro)))
 ((try refine zW ?_);(try with_reducible exact True.intro))
def firstB {α:Type} (f:α→Bool):Nat→List α→Int
 | _, []=> -1
 | i,x::r=>if f x=true then i else firstB f (i+1) r
theorem firstB_iff {α:Type} {f:α→Bool}: ∀ {l:List α} {i:Nat},0≤firstB f i l↔ ∃x∈l,f x=true
 | [],i=>by simp [firstB]
 | x::r,i=>by
   unfold firstB
   split
   ·rename_i e;simp [e]
   ·rename_i e;rw [firstB_iff];simp [e]
abbrev cNone (order:List Int):IV:= .clo (.func 46) [] [.p (.rp [.imm 1 (pr eI order)])]
theorem IndexFunc_spec (order l:List Int) (hk:l.length≤1000000):Pure Tryz.prog 81 [lI l,cNone order] (sci .i64 (firstB (fun x=>!decide (x∈order)) 0 l)):=by
 refine pcall0 200 (fn:=Tryz.f81) Tryz.func81 rfl (by simp [Tryz.ntmps81]) zB zB fun hs=>?_
 ((try refine zW ?_);(try with_reducible exact True.intro))
 refine walk_floop 200 200 (fun i:Nat=>i≤l.length∧firstB (fun x=>!decide (x∈order)) i (l.drop i)=firstB (fun x=>!decide (x∈order)) 0 l)
  (fun i=>⟨19, [(0,lI l),(1,cNone order),(7,sci .i64 l.length),(8,sci .i64 i)], [],0, []⟩) (fun i=>l.length - i) (0) [] ?_ ?_ ?_
 ·simp
 ·constructor<;>(try simp (disch:=omega) only [go_sem,simprocAttr,zD,zE,Int.natCast_zero,List.take_of_length_le,List.append_assoc])
 ·rintro i hi
  obtain⟨hi,hinvi⟩:=hi
  ((try refine zW ?_);(try with_reducible exact True.intro))
  by_cases li:i < l.length
  ·rw [drop_cons li,firstB] at hinvi
   (try simp (disch:=omega) only [go_sem,simprocAttr,zD,zE,eI])
   (refine at_call 200 ?_;(refine zW ?_;try with_reducible exact True.intro);refine callA_of (none_spec order l[i]) zB ?_;((try refine zW ?_);(try with_reducible exact True.intro)))
   by_cases e:l[i]∈order
   ·simp only [e,decide_true,Bool.not_true,Bool.false_eq_true,if_false] at hinvi
    (try simp (disch:=omega) only [go_sem,simprocAttr,zD,zE,e])
    refine⟨i+1, [],⟨by first | assumption | omega,hinvi⟩,?_,?_⟩
    ·(try simp only []);omega
    ·constructor<;>(try simp (disch:=omega) only [go_sem,simprocAttr,zD,zE,List.append_assoc])
   ·simp only [e,decide_false,Bool.not_false,if_true] at hinvi
    (try simp (disch:=omega) only [go_sem,simprocAttr,zD,zE,e,←hinvi])
  ·obtain rfl:i=l.length:=by omega
   rw [List.drop_length] at hinvi
   (try simp (disch:=omega) only [go_sem,simprocAttr,zD,zE,←hinvi,firstB])
theorem ContainsFunc_spec (order:List Int) (n:Nat) (hn:n≤1000):Pure Tryz.prog 48 [lI (rng n),cNone order] (scb (!tB (allL order n))):=by
 have e:decide (0≤firstB (fun x=>!decide (x∈order)) 0 (rng n))= !tB (allL order n):=by
  rw [tB_not,←tB_dec]
  refine tB_congr ?_
  rw [firstB_iff]
  constructor
  ·rintro⟨x,hx,h⟩ q
   simp only [rng,List.mem_map,List.mem_range] at hx
   obtain⟨j,hj,rfl⟩:=hx
   have:=q j hj
   simp [this] at h
  ·intro h
   refine Classical.byContradiction fun q=>h fun i hi=>?_
   refine Classical.byContradiction fun q2=>q ⟨(i:Int),?_,?_⟩
   ·simp only [rng,List.mem_map,List.mem_range];exact⟨i,hi,rfl⟩
   ·simp [q2]
 refine pcall0 200 (fn:=Tryz.f48) Tryz.func48 rfl (by simp [Tryz.ntmps48]) zB zB fun hs=>?_
 ((try refine zW ?_);(try with_reducible exact True.intro))
 (refine at_call 200 ?_;(refine zW ?_;try with_reducible exact True.intro);refine callA_of (IndexFunc_spec order (rng n) (by rw [rng_len];omega)) zB ?_;((try refine zW ?_);(try with_reducible exact True.intro)))
 (try simp (disch:=omega) only [go_sem,simprocAttr,zD,zE,e])
theorem sub_len: ∀ {l m:List Int},l.Nodup→(∀x∈l,x∈m)→l.length≤m.length
 | [],_,_,_=>Nat.zero_le _
 | x::r,m,hn,hs=>by
   rw [List.nodup_cons] at hn
   have hx:=hs x (List.mem_cons_self ..)
   have:=sub_len (l:=r) (m:=m.erase x) hn.2 fun y hy=>(List.mem_erase_of_ne (fun e:y=x=>hn.1 (by rw [←e];exact hy))).2 (hs y (List.mem_cons_of_mem _ hy))
   rw [List.length_erase_of_mem hx] at this
   have:=List.length_pos_of_mem hx
   simp only [List.length_cons];omega
theorem rng_nodup (n:Nat):(rng n).Nodup:=by
 unfold rng
 exact List.pairwise_map.2 (List.nodup_range.imp fun h e=>h (Int.ofNat.inj e))
theorem all_min (order:List Int) (n:Nat) (h:order.length < n): ¬allL order n:=by
 intro q
 have:=sub_len (rng_nodup n) (m:=order) fun x hx=>by
  simp only [rng,List.mem_map,List.mem_range] at hx
  obtain⟨j,hj,rfl⟩:=hx
  exact q j hj
 rw [rng_len] at this
 omega
theorem Whole_spec (order:List Int) (n:Nat) (hn:n≤900) (ho:order.length≤900):Pure Tryz.prog 16 [lI order,sci .i64 n] (scb (tB (allL order n))):=by
 have e:allL order (min n (order.length+1))↔allL order n:=by
  rcases Nat.lt_or_ge order.length n with h | h
  ·rw [Nat.min_eq_right (by omega)]
   exact⟨fun q=>absurd q (all_min _ _ (by omega)),fun q=>absurd q (all_min _ _ h)⟩
  ·rw [Nat.min_eq_left (by omega)]
 have em:(if(order.length:Int)+1 < (n:Int) then(order.length:Int)+1 else(n:Int))=((min n (order.length+1):Nat):Int):=by split<;>omega
 refine pcall0 200 (fn:=Tryz.f16) Tryz.func16 rfl (by simp [Tryz.ntmps16]) zB zB fun hs=>?_
 (try simp (disch:=omega) only [go_sem,simprocAttr,zD,zE,em])
 (refine at_call 200 ?_;(refine zW ?_;try with_reducible exact True.intro);refine callA_of (Turn_spec (min n (order.length+1)) (by omega)) zB ?_;((try refine zW ?_);(try with_reducible exact True.intro)))
 ((try refine zW ?_);(try with_reducible exact True.intro))
 (refine at_call 200 ?_;(refine zW ?_;try with_reducible exact True.intro);refine callA_view ?_;(refine zW ?_;try with_reducible exact True.intro);refine callV_of (ContainsFunc_spec order (min n (order.length+1)) (by omega)) (by first | rfl | (split<;>rfl)) ?_;((try refine zW ?_);(try with_reducible exact True.intro)))
 have e2:tB (allL order (min n (order.length+1)))=tB (allL order n):=tB_congr e
 (try simp (disch:=omega) only [go_sem,simprocAttr,zD,zE,e2])
end Go.Proofs.FA
