/- What a host tells: the law's walk. -/
import Derived.Test.YtnbhjoopcaaafaaGreatHP9
import Derived.Test.YtnbhjoopcaaafaaGreatHP4
import Derived.Test.YtnbhjoopcaaafaaGreatHM
set_option linter.unusedSimpArgs false
set_option linter.unusedVariables false
namespace Go.Proofs.HO
open Go Go.Idl Go.Proofs Go.GP
set_option maxHeartbeats 20000000
set_option maxRecDepth 100000
theorem okNd_cut (n : Nd) : OkNd (cutNd n) := by
 refine ⟨by simp only [cutNd, List.length_map, List.length_take]; omega, fun s hs => ?_⟩
 obtain ⟨t, _, rfl⟩ := List.mem_map.1 hs
 refine ⟨?_, ?_, fun p hp => ?_, ?_⟩
 ·simp only [cutSt, List.length_take]; omega
 ·simp only [cutSt, List.length_map, List.length_take]; omega
 ·obtain ⟨q, _, rfl⟩ := List.mem_map.1 hp
  simp only [cutP, List.length_take]; omega
 ·simp only [cutSt, List.length_take]; omega
theorem ok_cut (s : Sc) : (cutSc s).T.length ≤ 8 ∧ (cutSc s).ls.length ≤ 1000000 ∧ ∀ n ∈ (cutSc s).T, OkNd n := by
 refine ⟨by simp only [cutSc, List.length_map, List.length_take]; omega, by simp only [cutSc, List.length_take]; omega, fun n hn => ?_⟩
 obtain ⟨m, _, rfl⟩ := List.mem_map.1 hn
 exact okNd_cut m
theorem small_ok {T : List Nd} (h8 : T.length ≤ 8) (h : ∀ n ∈ T, OkNd n) : SmallT T := by
 refine ⟨by omega, fun n x hx => ?_⟩
 obtain ⟨a, b⟩ := h x (List.mem_of_getElem? hx)
 refine ⟨by omega, fun j s hs => ?_⟩
 obtain ⟨c1, c2, c3, c4⟩ := b s (List.mem_of_getElem? hs)
 exact ⟨by omega, by omega, by omega⟩
def eZ (_ : Unit) : List PV := [.sc (.slice none 0 0)]
theorem PieceG_spec (h : Hs) (hg : gHs h) {X : List Int} {Z : List Unit} (hX : X = h.out.map fun l => (l.length : Int)) (hZ : Z = List.replicate h.inn.length ()) :
  Pure Tryz.prog 31 [lHs h, scb false] (.agg [sci .i64 h.node, sci .i64 h.state, sci .i64 h.steps, lI X, .p (.imm 1 (pr eZ Z)), nil0]) := by
 have e : pr eZ Z = List.replicate h.inn.length [PV.sc (.slice none 0 0)] := by rw [hZ]; simp [pr, eZ]
 rw [e, hX]
 exact PieceF_spec h hg
theorem PieceU_spec (h : Hs) (hg : gHs h) {X : List Int} (hX : X = h.out.map fun l => (l.length : Int)) :
  Pure Tryz.prog 31 [lHs h, scb true] (lPc ⟨h.node, h.state, h.steps, X, h.inn, h.out⟩) := by rw [hX]; exact PieceT_spec h hg
end Go.Proofs.HO
