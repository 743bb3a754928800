/- Orders that are whole: the law's walk. -/
import Derived.Test.YtiahkkkgomoifaaGreatFAa
import Derived.Test.YtiahkkkgomoifaaGreatFM
set_option linter.unusedSimpArgs false
set_option linter.unusedVariables false
namespace Go.Proofs.FA
open Go Go.Idl Go.Proofs Go.GP
set_option maxHeartbeats 20000000
set_option maxRecDepth 100000
theorem rng_mem {n:Nat} {x:Int}:x∈rng n↔ ∃j:Nat,j < n∧x=j:=by
 simp only [rng,List.mem_map,List.mem_range]
 exact⟨fun⟨j,h,e⟩=>⟨j,h,e.symm⟩,fun⟨j,h,e⟩=>⟨j,h,e.symm⟩⟩
theorem rng_split (n k:Nat) (h:k < n):rng n=(rng n).take k++((k:Int)::(rng n).drop (k+1)):=by
 have hl:k < (rng n).length:=by rw [rng_len];exact h
 have e:(rng n)[k]=(k:Int):=by simp [rng]
 rw [←e,←List.drop_eq_getElem_cons hl,List.take_append_drop]
theorem all_rng (n m:Nat) (h:m≤n):allL (rng n) m:=fun i hi=>rng_mem.2 ⟨i,by omega,rfl⟩
theorem not_rng (n:Nat): ¬allL (rng n) (n+1):=fun q=>by
 obtain⟨j,hj,e⟩:=rng_mem.1 (q n (by omega))
 omega
theorem turned_all (n k:Nat):allL ((rng n).drop k++(rng n).take k) n:=fun i hi=>by
 have:(i:Int)∈rng n:=rng_mem.2 ⟨i,hi,rfl⟩
 rw [←List.take_append_drop k (rng n),List.mem_append] at this
 exact List.mem_append.2 this.symm
theorem less_all (n k:Nat) (h:k < n) (A:List Int):allL ((rng n).take k++(rng n).drop (k+1)++A) n↔(k:Int)∈A:=by
 have hs:=rng_split n k h
 have hn:=rng_nodup n
 rw [hs,List.nodup_append] at hn
 have hk1:(k:Int) ∉ (rng n).take k:=fun q=>hn.2.2 _ q _ (List.mem_cons_self ..) rfl
 have hk2:(k:Int) ∉ (rng n).drop (k+1):=(List.nodup_cons.1 hn.2.1).1
 constructor
 ·intro q
  have:=q k h
  rw [List.mem_append,List.mem_append] at this
  rcases this with (h | h) | h
  ·exact absurd h hk1
  ·exact absurd h hk2
  ·exact h
 ·intro hA i hi
  by_cases e:i=k
  ·rw [e];exact List.mem_append.2 (.inr hA)
  ·have:(i:Int)∈rng n:=rng_mem.2 ⟨i,hi,rfl⟩
   rw [hs,List.mem_append,List.mem_cons] at this
   rw [List.mem_append,List.mem_append]
   rcases this with h | h | h
   ·exact .inl (.inl h)
   ·omega
   ·exact .inl (.inr h)
theorem FairOrders_pure (links at_:Int) (more:List Int) (hl:0≤links∧links < 256) (ha:0≤at_∧at_ < 256):
  Pure Tryz.prog 4 [.p (.sc (.int .u8 links)),lI more, .p (.sc (.int .u8 at_))] (scb true):=by
 obtain⟨n,en,hn⟩: ∃n:Nat,1+Int.tmod links 30=(n:Int)∧1≤n∧n≤30:=by
  have h1:=Int.tmod_nonneg 30 hl.1
  have h2:=Int.tmod_lt_of_pos links (show(0:Int) < 30 by decide)
  exact⟨(1+Int.tmod links 30).toNat,by omega,by omega,by omega⟩
 obtain⟨k,ek,hk⟩: ∃k:Nat,Int.tmod at_ (n:Int)=(k:Int)∧k < n:=by
  have h1:=Int.tmod_nonneg (n:Int) ha.1
  have h2:=Int.tmod_lt_of_pos at_ (show(0:Int) < (n:Int) by omega)
  exact⟨(Int.tmod at_ (n:Int)).toNat,by omega,by omega⟩
 have w1:=Whole_spec (rng n) n (by omega) (by rw [rng_len];omega)
 rw [tB_pos (all_rng n n (Nat.le_refl _))] at w1
 have w2:=Whole_spec (rng n) (n - 1) (by omega) (by rw [rng_len];omega)
 rw [tB_pos (all_rng n (n - 1) (by omega)),show((n - 1:Nat):Int)=(n:Int) - 1 by omega] at w2
 have w3:=Whole_spec (rng n) (n+1) (by omega) (by rw [rng_len];omega)
 rw [tB_neg (not_rng n),show((n+1:Nat):Int)=(n:Int)+1 by omega] at w3
 refine pcall0 200 (fn:=Tryz.f4) Tryz.func4 rfl (by simp [Tryz.ntmps4]) zB zB fun hs=>?_
 (try simp (maxSteps:=2000000) (disch:=omega) only [go_sem,simprocAttr,zD,zE,en])
 (refine at_call 200 ?_;(refine zW ?_;try with_reducible exact True.intro);refine callA_of (Turn_spec n (by omega)) zB ?_;((try refine zW ?_);(try with_reducible exact True.intro)))
 (try simp (maxSteps:=2000000) (disch:=omega) only [go_sem,simprocAttr,zD,zE,rng_len])
 (refine at_call 200 ?_;(refine zW ?_;try with_reducible exact True.intro);refine callA_of (w1) zB ?_;((try refine zW ?_);(try with_reducible exact True.intro)))
 ((try refine zO ?_);(try with_reducible exact True.intro))
 (refine at_call 200 ?_;(refine zW ?_;try with_reducible exact True.intro);refine callA_of (w2) zB ?_;((try refine zW ?_);(try with_reducible exact True.intro)))
 ((try refine zO ?_);(try with_reducible exact True.intro))
 (refine at_call 200 ?_;(refine zW ?_;try with_reducible exact True.intro);refine callA_of (w3) zB ?_;((try refine zW ?_);(try with_reducible exact True.intro)))
 (try simp (maxSteps:=2000000) (disch:=omega) only [go_sem,simprocAttr,zD,zE,ek])
 have hln:=rng_len n
 have e1:min k n=k:=by omega
 have e2:((k:Int)+1).toNat=k+1:=by omega
 have e3:List.take (n - (k+1)) (List.drop (k+1) (rng n))=List.drop (k+1) (rng n):=List.take_of_length_le (by rw [List.length_drop,rng_len];omega)
 have e4:List.take (n - k) (List.drop k (rng n))=List.drop k (rng n):=List.take_of_length_le (by rw [List.length_drop,rng_len];omega)
 have e6:List.take k (List.take k (rng n))=List.take k (rng n):=by rw [List.take_take,Nat.min_self]
 have e5:(if(40:Int) < (more.length:Int) then(40:Int) else(more.length:Int))=((min 40 more.length:Nat):Int):=by split<;>omega
 have e7:min (min 40 more.length) more.length=min 40 more.length:=by omega
 obtain⟨A,hA⟩: ∃A,more.take (min 40 more.length)=A:=⟨_,rfl⟩
 have hAl:A.length=min 40 more.length:=by rw [←hA,List.length_take];omega
 obtain⟨L,hL⟩: ∃L,List.take k (rng n)++List.drop (k+1) (rng n)=L:=⟨_,rfl⟩
 have hLl:L.length=k+(n - (k+1)):=by rw [←hL,List.length_append,List.length_take,List.length_drop,rng_len];omega
 obtain⟨T,hT⟩: ∃T,List.drop k (rng n)++List.take k (rng n)=T:=⟨_,rfl⟩
 have hTl:T.length=n - k+k:=by rw [←hT,List.length_append,List.length_take,List.length_drop,rng_len];omega
 (refine walk_trim [1,7,8,9] trivial zL ?_;(refine zW ?_;try with_reducible exact True.intro);refine irun_walk (id:=6) (n:=200) [some [1,2,3,5,6,7,8],none,none,none,some [5,6,7,8],some [0,1,2,3,4,6,7,8],none,none,none,some [],none,none] mixed (by kernel_rfl) ?_)
 (try simp (maxSteps:=2000000) (disch:=omega) only [go_sem,simprocAttr,zD,zE,rng_len,e1,e2,e3,e4,e5,e6,e7,hA,hL,hT,Int.toNat_natCast])
 have hA40:A.length≤40:=by omega
 have v1:=Whole_spec T n (by omega) (by omega)
 rw [tB_pos (by rw [←hT];exact turned_all n k)] at v1
 have v2:=Whole_spec (A++T) n (by omega) (by rw [List.length_append];omega)
 rw [tB_pos (show allL (A++T) n from fun i hi=>List.mem_append.2 (.inr (by rw [←hT];exact turned_all n k i hi)))] at v2
 have v3:=Whole_spec (L++A) n (by omega) (by rw [List.length_append];omega)
 rw [show tB (allL (L++A) n)=decide ((k:Int)∈A) by rw [←tB_dec,←hL];exact tB_congr (less_all n k hk A)] at v3
 have hT2:List.take (n - k+k) T=T:=List.take_of_length_le (by omega)
 have hL2:List.take (k+(n - (k+1))) L=L:=List.take_of_length_le (by omega)
 have hAT:List.take (A.length+(n - k+k)) (A++T)=A++T:=List.take_of_length_le (by rw [List.length_append];omega)
 have hLA:List.take (k+(n - (k+1)+A.length)) (L++A)=L++A:=List.take_of_length_le (by rw [List.length_append];omega)
 have v1:Pure Tryz.prog 16 [lI (List.take (n - k+k) T),sci .i64 n] (scb true):=by rw [hT2];exact v1
 have v2:Pure Tryz.prog 16 [lI (List.take (A.length+(n - k+k)) (A++T)),sci .i64 n] (scb true):=by rw [hAT];exact v2
 have v3:Pure Tryz.prog 16 [lI (List.take (k+(n - (k+1)+A.length)) (L++A)),sci .i64 n] (scb (decide ((k:Int)∈A))):=by rw [hLA];exact v3
 clear hA hL hT
 (refine walk_trim [7,9,10,11,12,13,14] trivial zL ?_;((try refine zW ?_);(try with_reducible exact True.intro)))
 refine walk_floop 200 200 (fun i:Nat=>i≤A.length)
  (fun i=>⟨115, [(7,sci .i64 n),(9,sci .i64 k),(10, .ref 0 1 0 (k+(n - (k+1)))),(11, .ref 1 1 0 (n - k+k)),(12, .ref 2 0 0 A.length),(13,scb (decide ((k:Int)∈A.take i))),(14,sci .i64 i)], [],3, [(2, .arr 1 0 (ir eI A)),(1, .arr 1 1 (ir eI T)),(0, .arr 1 1 (ir eI L))]⟩) (fun i=>A.length - i) (0) [] ?_ ?_ ?_
 ·simp
 ·constructor<;>(try simp (maxSteps:=2000000) (disch:=omega) only [go_sem,simprocAttr,zD,zE,Int.natCast_zero,List.take_of_length_le,List.append_assoc,List.take_zero,List.not_mem_nil,decide_false])
 ·rintro i hi
  ((try refine zW ?_);(try with_reducible exact True.intro))
  by_cases li:i < A.length
  ·have ht:A.take (i+1)=A.take i++ [A[i]]:=List.take_succ_eq_append_getElem li
   by_cases hm:(k:Int)∈A.take i
   ·have hm2:(k:Int)∈A.take (i+1):=by rw [ht];exact List.mem_append.2 (.inl hm)
    (try simp (maxSteps:=2000000) (disch:=omega) only [go_sem,simprocAttr,zD,zE,hm])
    refine⟨i+1, [],li,by omega,?_⟩
    constructor<;>(try simp (maxSteps:=2000000) (disch:=omega) only [go_sem,simprocAttr,zD,zE,hm2])
   ·by_cases hx:A[i]=(k:Int)
    ·have hm2:(k:Int)∈A.take (i+1):=by rw [ht,hx];exact List.mem_append.2 (.inr (List.mem_singleton.2 rfl))
     (try simp (maxSteps:=2000000) (disch:=omega) only [go_sem,simprocAttr,zD,zE,hm,eI,hx])
     refine⟨i+1, [],li,by omega,?_⟩
     constructor<;>(try simp (maxSteps:=2000000) (disch:=omega) only [go_sem,simprocAttr,zD,zE,hm2])
    ·have hm2: ¬(k:Int)∈A.take (i+1):=by
      rw [ht,List.mem_append,List.mem_singleton]
      exact fun q=>q.elim hm fun e=>hx e.symm
     have hx2:(A[i]=(k:Int))=False:=eq_false hx
     (try simp (maxSteps:=2000000) (disch:=omega) only [go_sem,simprocAttr,zD,zE,hm,eI,hx2])
     refine⟨i+1, [],li,by omega,?_⟩
     constructor<;>(try simp (maxSteps:=2000000) (disch:=omega) only [go_sem,simprocAttr,zD,zE,hm2])
  ·obtain rfl:i=A.length:=by omega
   rw [List.take_length]
   (try simp (maxSteps:=2000000) (disch:=omega) only [go_sem,simprocAttr,zD,zE,hTl,hLl,hT2,hL2])
   (refine at_call 200 ?_;(refine zW ?_;try with_reducible exact True.intro);refine callA_view ?_;(refine zW ?_;try with_reducible exact True.intro);refine callV_of (v1) (by first | rfl | (split<;>rfl)) ?_;((try refine zW ?_);(try with_reducible exact True.intro)))
   ((try refine zO ?_);(try with_reducible exact True.intro))
   (refine at_call 200 ?_;(refine zW ?_;try with_reducible exact True.intro);refine callA_view ?_;(refine zW ?_;try with_reducible exact True.intro);refine callV_of (v2) (by first | rfl | (split<;>rfl)) ?_;((try refine zW ?_);(try with_reducible exact True.intro)))
   ((try refine zO ?_);(try with_reducible exact True.intro))
   (refine at_call 200 ?_;(refine zW ?_;try with_reducible exact True.intro);refine callA_view ?_;(refine zW ?_;try with_reducible exact True.intro);refine callV_of (v3) (by first | rfl | (split<;>rfl)) ?_;((try refine zW ?_);(try with_reducible exact True.intro)))
   ((try refine zO ?_);(try with_reducible exact True.intro))
   (refine at_call 200 ?_;(refine zW ?_;try with_reducible exact True.intro);refine callA_of (fixed_spec) zB ?_;((try refine zW ?_);(try with_reducible exact True.intro)))
   ((try refine zO ?_);(try with_reducible exact True.intro))
end Go.Proofs.FA
