/- Facts that the proofs of this claim lean on. -/
import Derived.Test.YteebghpjgcacmaaGreatYTypes
import Derived.Test.YteebghpjgcacmaaGreatIdZq
import Derived.Test.YteebghpjgcacmaaGreatYWc
set_option linter.unusedSimpArgs false
set_option linter.unusedVariables false
/- The document's fixed calls of gathering. -/
namespace Go.Proofs.GY
open Go Go.Idl Go.Proofs
set_option maxHeartbeats 20000000
set_option maxRecDepth 100000
theorem fixed_spec:Pure Tryz.prog 20 [] (scb true):=ycallK 100000 (fun c=>c==20) (by kernel_rfl)
end Go.Proofs.GY
/- Pieces of which one is missing, or stands twice, or out of order: the law's walk. -/
namespace Go.Proofs.GY
open Go Go.Idl Go.Proofs Go.GP
set_option maxHeartbeats 20000000
set_option maxRecDepth 100000
theorem okNd_cut (n:Nd):OkNd (cutNd n):=by
 refine⟨by simp only [cutNd,List.length_map,List.length_take];omega,fun s hs=>?_⟩
 obtain⟨t,_,rfl⟩:=List.mem_map.1 hs
 refine⟨?_,?_,fun p hp=>?_,?_⟩
 ·simp only [cutSt,List.length_take];omega
 ·simp only [cutSt,List.length_map,List.length_take];omega
 ·obtain⟨q,_,rfl⟩:=List.mem_map.1 hp
  simp only [cutP,List.length_take];omega
 ·simp only [cutSt,List.length_take];omega
theorem ok_cut (s:Sc):(cutSc s).T.length≤8∧(cutSc s).ls.length≤1000000∧ ∀n∈(cutSc s).T,OkNd n:=by
 refine⟨by simp only [cutSc,List.length_map,List.length_take];omega,by simp only [cutSc,List.length_take];omega,fun n hn=>?_⟩
 obtain⟨m,_,rfl⟩:=List.mem_map.1 hn
 exact okNd_cut m
theorem small_ok {T:List Nd} (h8:T.length≤8) (h: ∀n∈T,OkNd n):SmallT T:=by
 refine⟨by omega,fun n x hx=>?_⟩
 obtain⟨a,b⟩:=h x (List.mem_of_getElem? hx)
 refine⟨by omega,fun j s hs=>?_⟩
 obtain⟨c1,c2,c3,c4⟩:=b s (List.mem_of_getElem? hs)
 exact⟨by omega,by omega,by omega⟩
def cutPs (l:List Pc):List Pc:=(l.take 8).map cutPc
theorem cutPs_g (l:List Pc): ∀p∈cutPs l,gPc p:=by
 intro p hp
 obtain⟨q,_,rfl⟩:=List.mem_map.1 hp
 exact gPc_cut q
theorem cutPs_le (l:List Pc):(cutPs l).length≤8:=by unfold cutPs;rw [List.length_map,List.length_take];omega
end Go.Proofs.GY
