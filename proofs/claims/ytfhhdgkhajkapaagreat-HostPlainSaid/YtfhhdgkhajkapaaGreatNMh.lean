/- Facts that the proofs of this claim lean on. -/
import Derived.Test.YtfhhdgkhajkapaaGreatNMe
import Derived.Test.YtfhhdgkhajkapaaGreatNMg
import Derived.Test.YtfhhdgkhajkapaaGreatNPL
set_option linter.unusedSimpArgs false
set_option linter.unusedVariables false
/- A node's links, in order. No program in sight. -/
namespace Go.Proofs.NO
open Go Go.Idl Go.Proofs Go.GP
theorem qej {n:Int}: ∀ {ls:List (Int × Int)} {s:Nat} {x:Int},x∈outs n s ls→ ∃i,x=((s+i:Nat):Int)∧ ∃h:i < ls.length,ls[i].1=n
 | [],s,x,h=>by simp [outs] at h
 | y::r,s,x,h=>by
   unfold outs at h
   have key:x∈outs n (s+1) r→ ∃i,x=((s+i:Nat):Int)∧ ∃h:i < (y::r).length,(y::r)[i].1=n:=fun q=>by
    obtain⟨i,e,hi,hn⟩:=qej q
    exact⟨i+1,by rw [e];congr 1;omega,by simpa using hi,by simpa using hn⟩
   split at h
   ·rename_i hy
    rcases List.mem_cons.1 h with rfl | q
    ·exact⟨0,rfl,by simp,hy⟩
    ·exact key q
   ·exact key h
theorem qdp {n:Int}: ∀ {ls:List (Int × Int)} {s:Nat},(outs n s ls).Pairwise (· < ·)
 | [],s=>by simp [outs]
 | y::r,s=>by
   unfold outs
   split
   ·rw [List.pairwise_cons]
    refine⟨fun z hz=>?_,qdp⟩
    obtain⟨i,e,_⟩:=qej hz
    omega
   ·exact qdp
theorem qg1 {n:Int}: ∀ {ls:List (Int × Int)} {s:Nat} {x:Int},x∈ins n s ls→ ∃i,x=((s+i:Nat):Int)∧ ∃h:i < ls.length,ls[i].2=n
 | [],s,x,h=>by simp [ins] at h
 | y::r,s,x,h=>by
   unfold ins at h
   have key:x∈ins n (s+1) r→ ∃i,x=((s+i:Nat):Int)∧ ∃h:i < (y::r).length,(y::r)[i].2=n:=fun q=>by
    obtain⟨i,e,hi,hn⟩:=qg1 q
    exact⟨i+1,by rw [e];congr 1;omega,by simpa using hi,by simpa using hn⟩
   split at h
   ·rename_i hy
    rcases List.mem_cons.1 h with rfl | q
    ·exact⟨0,rfl,by simp,hy⟩
    ·exact key q
   ·exact key h
theorem qcH {n:Int}: ∀ {ls:List (Int × Int)} {s:Nat},(ins n s ls).Pairwise (· < ·)
 | [],s=>by simp [ins]
 | y::r,s=>by
   unfold ins
   split
   ·rw [List.pairwise_cons]
    refine⟨fun z hz=>?_,qcH⟩
    obtain⟨i,e,_⟩:=qg1 hz
    omega
   ·exact qcH
theorem qbf {a:Int}: ∀ {l:List Int} {s k:Nat},l.Pairwise (· < ·)→l[k]? =some a→qax a s l=((s+k:Nat):Int)
 | x::r,s,0,h,e=>by
   have e:x=a:=by simpa using e
   unfold qax
   rw [if_pos e.symm];rfl
 | x::r,s,k+1,h,e=>by
   rw [List.pairwise_cons] at h
   have e:r[k]? =some a:=by simpa using e
   have:=h.1 a (List.mem_of_getElem? e)
   unfold qax
   rw [if_neg (by omega),qbf h.2 e]
   congr 1;omega
end Go.Proofs.NO
/- The document's answer: pieces put together. -/
namespace Go.Proofs.NO
open Go Go.Idl Go.Proofs Go.GP
set_option maxHeartbeats 20000000
set_option maxRecDepth 100000
end Go.Proofs.NO
