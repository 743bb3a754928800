/- Facts that the proofs of this claim lean on. -/
import Derived.Test.YtfhhdgkhajkapaaGreatNW
import Derived.Test.YtfhhdgkhajkapaaGreatNKa
set_option linter.unusedSimpArgs false
set_option linter.unusedVariables false
/- Which tables may be. -/
namespace Go.Proofs.NO
open Go Go.Idl Go.Proofs Go.GP
set_option maxHeartbeats 20000000
set_option maxRecDepth 100000
def qd3 (T:List Nd):Prop:=T.length≤1000000∧ ∀(n:Nat) (x:Nd),T[n]? =some x→x.states.length≤1000000∧ ∀(j:Nat) (s:St),x.states[j]? =some s→qoM s
end Go.Proofs.NO
/- What the cut leaves is small. -/
namespace Go.Proofs.NO
open Go Go.Idl Go.Proofs Go.GP
theorem qob (n:Nd):OkNd (qex n):=by
 refine⟨by simp only [qex,List.length_map,List.length_take];omega,fun s hs=>?_⟩
 obtain⟨t,_,rfl⟩:=List.mem_map.1 hs
 refine⟨?_,?_,fun p hp=>?_,?_⟩
 ·simp only [qdM,List.length_take];omega
 ·simp only [qdM,List.length_map,List.length_take];omega
 ·obtain⟨q,_,rfl⟩:=List.mem_map.1 hp
  simp only [cutP,List.length_take];omega
 ·simp only [qdM,List.length_take];omega
theorem ok_cut (s:Sc):(cutSc s).T.length≤8∧(cutSc s).ls.length≤1000000∧ ∀n∈(cutSc s).T,OkNd n:=by
 refine⟨by simp only [cutSc,List.length_map,List.length_take];omega,by simp only [cutSc,List.length_take];omega,fun n hn=>?_⟩
 obtain⟨m,_,rfl⟩:=List.mem_map.1 hn
 exact qob m
theorem qoy {T:List Nd} (h8:T.length≤8) (h: ∀n∈T,OkNd n):qd3 T:=by
 refine⟨by omega,fun n x hx=>?_⟩
 obtain⟨a,b⟩:=h x (List.mem_of_getElem? hx)
 refine⟨by omega,fun j s hs=>?_⟩
 obtain⟨c1,c2,c3,c4⟩:=b s (List.mem_of_getElem? hs)
 exact⟨by omega,by omega,by omega⟩
end Go.Proofs.NO
