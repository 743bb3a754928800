/- A map that counts links, each of which it has once. -/
import Derived.Test.YtoiledoommblcaaGreatGP
namespace Go.GP
open Go Go.Idl
def keyV (x : Int × Int) : Value := .agg ⟨[.int .i64 x.1, .int .i64 x.2]⟩
def mpL (l : List (Int × Int)) : List (Value × IV) := l.map fun x => (keyV x, sci .i64 1)
@[go_sem] theorem mpL_length {l : List (Int × Int)} : (mpL l).length = l.length := by simp [mpL]
@[go_sem] theorem mpL_nil : mpL [] = [] := (rfl)
theorem mfind_mpL {a b : Int} : ∀ {l : List (Int × Int)} {i : Nat}, mfind true [.int .i64, .int .i64] [.int .i64 a, .int .i64 b] i (mpL l) =
    some (if 0 ≤ findL a b i l then some ((findL a b i l).toNat, sci .i64 1) else none)
  | [], i => by simp [mpL, mfind, findL]
  | x :: r, i => by
    have e : mpL (x :: r) = (keyV x, sci .i64 1) :: mpL r := rfl
    rw [e, mfind]
    simp only [kok, keyV, if_true, Value.cells, leq, sleq, and_self, findL]
    by_cases h : x.1 = a ∧ x.2 = b
    · have e1 : ((a == x.1) && ((b == x.2) && true)) = true := by simp [h.1, h.2]
      simp only [e1, if_pos h, if_pos (Int.natCast_nonneg i), Int.toNat_natCast]
    · have e1 : ((a == x.1) && ((b == x.2) && true)) = false := by
        rw [Bool.eq_false_iff]; intro q
        simp only [Bool.and_eq_true, beq_iff_eq, and_true] at q
        exact h ⟨q.1.symm, q.2.symm⟩
      simp only [e1, if_neg h]
      exact mfind_mpL
/-- What a program tells of a map from pairs to numbers. -/
structure PairMap (P : Program) (t : TypeId) : Prop where
  ex : ∃ k e, tmp P t = some (k, e) ∧ tkey P k = some (true, [.int .i64, .int .i64]) ∧ tag P k = some true ∧ (tzv P e).bind cstv = some (sci .i64 0)
variable {P : Program} {t : TypeId} {G : Nat → Option IBlk} {b : Nat} {l : List (Int × Int)} {x y : Int}
theorem mlook_mpL (h : PairMap P t) (hG : G b = some (.mp (mpL l))) : ∃ e, (tzv P e).bind cstv = some (sci .i64 0) ∧
    mlook P G t (.mp b) (.agg [sci .i64 x, sci .i64 y]) = some (b, mpL l, keyV (x, y), (if 0 ≤ findL x y 0 l then some ((findL x y 0 l).toNat, sci .i64 1) else none), e) := by
  obtain ⟨k, e, h1, h2, h3, h4⟩ := h.ex
  refine ⟨e, h4, ?_⟩
  simp only [mlook, h1, hG, h2, ikey, h3, sci, scs, Option.map_some, Value.cells]
  refine (if_pos rfl).trans ?_
  have e2 := mfind_mpL (a := x) (b := y) (l := l) (i := 0)
  simp only [sci] at e2
  rw [e2]
  rfl
theorem flookup_mpL (h : PairMap P t) (hG : G b = some (.mp (mpL l))) :
    flookup P G t (.mp b) (.agg [sci .i64 x, sci .i64 y]) false = some { x := sci .i64 (if 0 ≤ findL x y 0 l then 1 else 0), R := [(b, .mp (mpL l))] } := by
  obtain ⟨e, h4, h5⟩ := mlook_mpL (x := x) (y := y) h hG
  unfold flookup
  rw [h5]
  split
  · rename_i q
    split at q <;> simp_all
  · rename_i q
    split at q
    · simp at q
    · rename_i q2
      simp only [Option.some.injEq, Prod.mk.injEq] at q
      obtain ⟨rfl, rfl, _, _, rfl⟩ := q
      rw [h4, if_neg q2]; rfl
  · simp_all
theorem fmapent_mpL (h : PairMap P t) (hG : G b = some (.mp (mpL l))) (hn : (x, y) ∉ l) :
    fmapent P G t (.mp b) (.agg [sci .i64 x, sci .i64 y]) = some { x := .tup [sci .i64 0, sci .i64 l.length], R := [(b, .mp (mpL l))], W := [(b, .mp (mpL l ++ [(keyV (x, y), sci .i64 0)]))] } := by
  obtain ⟨e, h4, h5⟩ := mlook_mpL (x := x) (y := y) h hG
  rw [if_neg (fun q => hn (findL_mem.1 q))] at h5
  unfold fmapent
  rw [h5]
  simp only [h4, mpL_length]
theorem fentst_mpL {G : Nat → Option IBlk} {v : IV} (hG : G b = some (.mp (mpL l ++ [(keyV (x, y), v)]))) :
    fentst G (.mp b) (.p (.sc (.int .i64 (l.length : Int)))) (sci .i64 1) = some { x := .dead, R := [(b, .mp (mpL l ++ [(keyV (x, y), v)]))], W := [(b, .mp (mpL (l ++ [(x, y)])))] } := by
  have e : (mpL l ++ [(keyV (x, y), v)])[l.length]? = some (keyV (x, y), v) := by
    rw [List.getElem?_append_right (by simp [mpL])]; simp [mpL]
  have e2 : (mpL l ++ [(keyV (x, y), v)]).set l.length (keyV (x, y), sci .i64 1) = mpL (l ++ [(x, y)]) := by
    rw [List.set_append_right _ _ (by simp [mpL])]; simp [mpL]
  simp only [fentst, hG, Int.toNat_natCast, if_pos (Int.natCast_nonneg l.length), e, e2]
theorem flookup_mp (h : PairMap P t) (hG : G b = some (.mp (mpL l))) :
    flookup P G t (.mp b) (.agg [.p (.sc (.int .i64 x)), .p (.sc (.int .i64 y))]) false = some { x := .p (.sc (.int .i64 (if 0 ≤ findL x y 0 l then 1 else 0))), R := [(b, .mp (mpL l))] } := flookup_mpL h hG
theorem fmapent_mp (h : PairMap P t) (hG : G b = some (.mp (mpL l))) (hn : (x, y) ∉ l) :
    fmapent P G t (.mp b) (.agg [.p (.sc (.int .i64 x)), .p (.sc (.int .i64 y))]) = some { x := .tup [.p (.sc (.int .i64 0)), .p (.sc (.int .i64 l.length))], R := [(b, .mp (mpL l))], W := [(b, .mp (mpL l ++ [(keyV (x, y), .p (.sc (.int .i64 0)))]))] } := fmapent_mpL h hG hn
theorem fentst_mp {G : Nat → Option IBlk} {v : IV} {n : Nat} (hn : l.length = n) (hG : G b = some (.mp (mpL l ++ [(keyV (x, y), v)]))) :
    fentst G (.mp b) (.p (.sc (.int .i64 (n : Int)))) (.p (.sc (.int .i64 1))) = some { x := .dead, R := [(b, .mp (mpL l ++ [(keyV (x, y), v)]))], W := [(b, .mp (mpL (l ++ [(x, y)])))] } := by subst hn; exact fentst_mpL hG
end Go.GP
namespace Go.GP
open Go Go.Idl
@[go_sem] theorem blkBel_mpL {n : Nat} {l : List (Int × Int)} : blkBel n (.mp (mpL l)) = True := eq_true (by
  unfold blkBel
  intro e he
  simp only [mpL, List.mem_map] at he
  obtain ⟨x, _, rfl⟩ := he
  trivial)
end Go.GP
namespace Go.GP
open Go Go.Idl
/-! ### for regions that draw their order -/
variable {a b : Int} {l : List (Int × Int)} {v : IV} {i : Nat}
theorem mf_no (h : ¬ 0 ≤ findL a b 0 l) : mfind true [.int .i64, .int .i64] [.int .i64 a, .int .i64 b] 0 (mpL l) = some none := by rw [mfind_mpL, if_neg h]
theorem mf_snoc' : ∀ {l : List (Int × Int)} {i : Nat}, ¬ 0 ≤ findL a b i l → mfind true [.int .i64, .int .i64] [.int .i64 a, .int .i64 b] i (mpL l ++ [(.agg ⟨[.int .i64 a, .int .i64 b]⟩, v)]) = some (some (i + l.length, v))
  | [], i, _ => by simp [mpL, mfind, kok, leq, sleq, Value.cells]
  | x :: r, i, h => by
    have e : mpL (x :: r) = (keyV x, sci .i64 1) :: mpL r := rfl
    simp only [findL] at h
    split at h
    · omega
    · rename_i q
      have e1 : ((a == x.1) && ((b == x.2) && true)) = false := by
        rw [Bool.eq_false_iff]; intro q2
        simp only [Bool.and_eq_true, beq_iff_eq, and_true] at q2
        exact q ⟨q2.1.symm, q2.2.symm⟩
      rw [e, List.cons_append, mfind]
      simp only [kok, keyV, if_true, Value.cells, leq, sleq, and_self, e1]
      rw [mf_snoc' h, List.length_cons, show i + 1 + r.length = i + (r.length + 1) by omega]
theorem mf_snoc (h : ¬ 0 ≤ findL a b 0 l) : mfind true [.int .i64, .int .i64] [.int .i64 a, .int .i64 b] 0 (mpL l ++ [(.agg ⟨[.int .i64 a, .int .i64 b]⟩, v)]) = some (some (l.length, v)) := by
  rw [mf_snoc' h, Nat.zero_add]
theorem mp_at {n : Nat} (hn : l.length = n) : (mpL l ++ [(Value.agg ⟨[.int .i64 a, .int .i64 b]⟩, v)])[n]? = some (.agg ⟨[.int .i64 a, .int .i64 b]⟩, v) := by
  subst hn
  rw [List.getElem?_append_right (by simp [mpL])]; simp [mpL]
theorem mp_set {n : Nat} (hn : l.length = n) : (mpL l ++ [(Value.agg ⟨[.int .i64 a, .int .i64 b]⟩, v)]).set n (.agg ⟨[.int .i64 a, .int .i64 b]⟩, .p (.sc (.int .i64 1))) = mpL (l ++ [(a, b)]) := by
  subst hn
  rw [List.set_append_right _ _ (by simp [mpL])]; simp [mpL, keyV, sci]
end Go.GP
