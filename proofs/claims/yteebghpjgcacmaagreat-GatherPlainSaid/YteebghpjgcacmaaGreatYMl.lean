/- A node's links, in order. No program in sight. -/
import Derived.Test.YteebghpjgcacmaaGreatYMe
set_option linter.unusedSimpArgs false
set_option linter.unusedVariables false
namespace Go.Proofs.GY
open Go Go.Idl Go.Proofs Go.GP
theorem qe1 {n:Int}: ∀ {ls:List (Int × Int)} {s:Nat} {x:Int},x∈outs n s ls→ ∃i,x=((s+i:Nat):Int)∧ ∃h:i < ls.length,ls[i].1=n
 | [],s,x,h=>by simp [outs] at h
 | y::r,s,x,h=>by
   unfold outs at h
   have key:x∈outs n (s+1) r→ ∃i,x=((s+i:Nat):Int)∧ ∃h:i < (y::r).length,(y::r)[i].1=n:=fun q=>by
    obtain⟨i,e,hi,hn⟩:=qe1 q
    exact⟨i+1,by rw [e];congr 1;omega,by simpa using hi,by simpa using hn⟩
   split at h
   ·rename_i hy
    rcases List.mem_cons.1 h with rfl | q
    ·exact⟨0,rfl,by simp,hy⟩
    ·exact key q
   ·exact key h
theorem qe2 {n:Int}: ∀ {ls:List (Int × Int)} {s:Nat},(outs n s ls).Pairwise (· < ·)
 | [],s=>by simp [outs]
 | y::r,s=>by
   unfold outs
   split
   ·rw [List.pairwise_cons]
    refine⟨fun z hz=>?_,qe2⟩
    obtain⟨i,e,_⟩:=qe1 hz
    omega
   ·exact qe2
theorem qhX {n:Int}: ∀ {ls:List (Int × Int)} {s:Nat} {x:Int},x∈ins n s ls→ ∃i,x=((s+i:Nat):Int)∧ ∃h:i < ls.length,ls[i].2=n
 | [],s,x,h=>by simp [ins] at h
 | y::r,s,x,h=>by
   unfold ins at h
   have key:x∈ins n (s+1) r→ ∃i,x=((s+i:Nat):Int)∧ ∃h:i < (y::r).length,(y::r)[i].2=n:=fun q=>by
    obtain⟨i,e,hi,hn⟩:=qhX q
    exact⟨i+1,by rw [e];congr 1;omega,by simpa using hi,by simpa using hn⟩
   split at h
   ·rename_i hy
    rcases List.mem_cons.1 h with rfl | q
    ·exact⟨0,rfl,by simp,hy⟩
    ·exact key q
   ·exact key h
theorem qdD {n:Int}: ∀ {ls:List (Int × Int)} {s:Nat},(ins n s ls).Pairwise (· < ·)
 | [],s=>by simp [ins]
 | y::r,s=>by
   unfold ins
   split
   ·rw [List.pairwise_cons]
    refine⟨fun z hz=>?_,qdD⟩
    obtain⟨i,e,_⟩:=qhX hz
    omega
   ·exact qdD
theorem qbF {a:Int}: ∀ {l:List Int} {s k:Nat},l.Pairwise (· < ·)→l[k]? =some a→qaF a s l=((s+k:Nat):Int)
 | x::r,s,0,h,e=>by
   have e:x=a:=by simpa using e
   unfold qaF
   rw [if_pos e.symm];rfl
 | x::r,s,k+1,h,e=>by
   rw [List.pairwise_cons] at h
   have e:r[k]? =some a:=by simpa using e
   have:=h.1 a (List.mem_of_getElem? e)
   unfold qaF
   rw [if_neg (by omega),qbF h.2 e]
   congr 1;omega
end Go.Proofs.GY
