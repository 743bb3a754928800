/- A node's links, in order. No program in sight. -/
import Derived.Test.YteebghpjgcacmaaGreatYMe
set_option linter.unusedSimpArgs false
set_option linter.unusedVariables false
namespace Go.Proofs.GY
open Go Go.Idl Go.Proofs Go.GP
theorem outs_ge {n:Int}: ∀ {ls:List (Int × Int)} {s:Nat} {x:Int},x∈outs n s ls→ ∃i,x=((s+i:Nat):Int)∧ ∃h:i < ls.length,ls[i].1=n
 | [],s,x,h=>by simp [outs] at h
 | y::r,s,x,h=>by
   unfold outs at h
   have key:x∈outs n (s+1) r→ ∃i,x=((s+i:Nat):Int)∧ ∃h:i < (y::r).length,(y::r)[i].1=n:=fun q=>by
    obtain⟨i,e,hi,hn⟩:=outs_ge q
    exact⟨i+1,by rw [e];congr 1;omega,by simpa using hi,by simpa using hn⟩
   split at h
   ·rename_i hy
    rcases List.mem_cons.1 h with rfl | q
    ·exact⟨0,rfl,by simp,hy⟩
    ·exact key q
   ·exact key h
theorem outs_up {n:Int}: ∀ {ls:List (Int × Int)} {s:Nat},(outs n s ls).Pairwise (· < ·)
 | [],s=>by simp [outs]
 | y::r,s=>by
   unfold outs
   split
   ·rw [List.pairwise_cons]
    refine⟨fun z hz=>?_,outs_up⟩
    obtain⟨i,e,_⟩:=outs_ge hz
    omega
   ·exact outs_up
theorem ins_ge {n:Int}: ∀ {ls:List (Int × Int)} {s:Nat} {x:Int},x∈ins n s ls→ ∃i,x=((s+i:Nat):Int)∧ ∃h:i < ls.length,ls[i].2=n
 | [],s,x,h=>by simp [ins] at h
 | y::r,s,x,h=>by
   unfold ins at h
   have key:x∈ins n (s+1) r→ ∃i,x=((s+i:Nat):Int)∧ ∃h:i < (y::r).length,(y::r)[i].2=n:=fun q=>by
    obtain⟨i,e,hi,hn⟩:=ins_ge q
    exact⟨i+1,by rw [e];congr 1;omega,by simpa using hi,by simpa using hn⟩
   split at h
   ·rename_i hy
    rcases List.mem_cons.1 h with rfl | q
    ·exact⟨0,rfl,by simp,hy⟩
    ·exact key q
   ·exact key h
theorem ins_up {n:Int}: ∀ {ls:List (Int × Int)} {s:Nat},(ins n s ls).Pairwise (· < ·)
 | [],s=>by simp [ins]
 | y::r,s=>by
   unfold ins
   split
   ·rw [List.pairwise_cons]
    refine⟨fun z hz=>?_,ins_up⟩
    obtain⟨i,e,_⟩:=ins_ge hz
    omega
   ·exact ins_up
theorem indexL_up {a:Int}: ∀ {l:List Int} {s k:Nat},l.Pairwise (· < ·)→l[k]? =some a→indexL a s l=((s+k:Nat):Int)
 | x::r,s,0,h,e=>by
   have e:x=a:=by simpa using e
   unfold indexL
   rw [if_pos e.symm];rfl
 | x::r,s,k+1,h,e=>by
   rw [List.pairwise_cons] at h
   have e:r[k]? =some a:=by simpa using e
   have:=h.1 a (List.mem_of_getElem? e)
   unfold indexL
   rw [if_neg (by omega),indexL_up h.2 e]
   congr 1;omega
theorem lkE_out {N:Int} {ls:List (Int × Int)} {T:List Nd} {l:List Pc} (hW:WholeP N ls T l) {n k:Nat} (hn:n < l.length) (hk:k < (outs n 0 ls).length):
  ∃i:Nat,i < ls.length∧(outs n 0 ls)[k]=(i:Int)∧l[n].sent[k]? =some (lkE ls l i):=by
 obtain⟨i,e,hi,hx⟩:=outs_ge (List.getElem_mem hk)
 rw [Nat.zero_add] at e
 refine⟨i,hi,e,?_⟩
 have hks:k < l[n].sent.length:=by have:=(hW.2.2 n _ (List.getElem?_eq_getElem hn)).2.2.2.1;omega
 have hA:(lkA ls i).1=(n:Int):=by rw [lkA,List.getElem?_eq_getElem hi];exact hx
 have hP:lkP ls l i=l[n]:=by rw [lkP,hA,Int.toNat_natCast,List.getElem?_eq_getElem hn];rfl
 have hO:lkO ls i=k:=by rw [lkO,hA,indexL_up (k:=k) outs_up (by rw [List.getElem?_eq_getElem hk,e]),Nat.zero_add,Int.toNat_natCast]
 rw [lkE,hP,hO,List.getElem?_eq_getElem hks];rfl
theorem lkG_in {N:Int} {ls:List (Int × Int)} {T:List Nd} {l:List Pc} (hW:WholeP N ls T l) {n k:Nat} (hn:n < l.length) (hk:k < (ins n 0 ls).length):
  ∃i:Nat,i < ls.length∧(ins n 0 ls)[k]=(i:Int)∧l[n].inn[k]? =some (lkG ls l i):=by
 obtain⟨i,e,hi,hx⟩:=ins_ge (List.getElem_mem hk)
 rw [Nat.zero_add] at e
 refine⟨i,hi,e,?_⟩
 have hks:k < l[n].inn.length:=by have:=(hW.2.2 n _ (List.getElem?_eq_getElem hn)).2.2.2.2;omega
 have hA:(lkA ls i).2=(n:Int):=by rw [lkA,List.getElem?_eq_getElem hi];exact hx
 have hP:lkQ ls l i=l[n]:=by rw [lkQ,hA,Int.toNat_natCast,List.getElem?_eq_getElem hn];rfl
 have hO:lkJ ls i=k:=by rw [lkJ,hA,indexL_up (k:=k) ins_up (by rw [List.getElem?_eq_getElem hk,e]),Nat.zero_add,Int.toNat_natCast]
 rw [lkG,hP,hO,List.getElem?_eq_getElem hks];rfl
end Go.Proofs.GY
