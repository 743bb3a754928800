/- Facts that the proofs of this claim lean on. -/
import Derived.Test.YtoiledoommblcaaRH
import Derived.Test.YtoiledoommblcaaRK
set_option linter.unusedSimpArgs false
set_option linter.unusedVariables false
/- Whether two scripts are the same: by what their numbers are. -/
namespace Go.Proofs.TR
open Go Go.Idl Go.Proofs
def I64 (n : Int) : Prop := -9223372036854775808 ≤ n ∧ n ≤ 9223372036854775807
theorem byteN_eq (n : Int) (i : Nat) (hi : i < 8) : byteN n i = (n / 256 ^ i) % 256 := by
  have e : (2 : Int) ^ min (8 * (i : Int)).toNat 64 = 256 ^ i := by
    have : min (8 * (i : Int)).toNat 64 = 8 * i := by omega
    rw [this, Int.pow_mul]; rfl
  unfold byteN
  rw [e, Int.fdiv_eq_ediv_of_nonneg _ (Int.le_of_lt (Int.pow_pos (by omega))), IntKind.wrap_u8]
theorem le8_eq (n : Int) : le8 n = [n % 256, n / 256 % 256, n / 65536 % 256, n / 16777216 % 256, n / 4294967296 % 256, n / 1099511627776 % 256, n / 281474976710656 % 256, n / 72057594037927936 % 256] := by
  have : le8 n = (List.range 8).map fun i => (n / 256 ^ i) % 256 := by
    unfold le8
    apply List.map_congr_left
    intro i hi
    exact byteN_eq n i (List.mem_range.1 hi)
  rw [this]
  simp [List.range_succ]
theorem le8_inj {n m : Int} (hn : I64 n) (hm : I64 m) (h : le8 n = le8 m) : n = m := by
  rw [le8_eq, le8_eq] at h
  simp only [List.cons.injEq, and_true] at h
  obtain ⟨h0, h1, h2, h3, h4, h5, h6, h7⟩ := h
  unfold I64 at hn hm
  omega
theorem le8_mem {n b : Int} (h : b ∈ le8 n) : 0 ≤ b ∧ b < 256 := by
  rw [le8_eq] at h
  simp only [List.mem_cons, List.not_mem_nil, or_false] at h
  omega
theorem flat_le8_inj : ∀ {l k : List Int}, (∀ n ∈ l, I64 n) → (∀ n ∈ k, I64 n) → l.flatMap le8 = k.flatMap le8 → l = k
  | [], [], _, _, _ => rfl
  | [], m :: k, _, _, h => by
    have := congrArg List.length h
    simp only [List.flatMap_nil, List.flatMap_cons, List.length_append, List.length_nil, le8_len] at this
    omega
  | n :: l, [], _, _, h => by
    have := congrArg List.length h
    simp only [List.flatMap_nil, List.flatMap_cons, List.length_append, List.length_nil, le8_len] at this
    omega
  | n :: l, m :: k, hl, hk, h => by
    simp only [List.flatMap_cons] at h
    obtain ⟨h1, h2⟩ := List.append_inj h (by rw [le8_len, le8_len])
    rw [le8_inj (hl n (List.mem_cons_self ..)) (hk m (List.mem_cons_self ..)) h1,
      flat_le8_inj (fun x hx => hl x (List.mem_cons_of_mem _ hx)) (fun x hx => hk x (List.mem_cons_of_mem _ hx)) h2]
theorem strOf_toList (l : List Int) : (strOf l).toList = l.map fun n => UInt8.ofNat n.toNat := by
  rw [ByteArray.toList_eq]; rfl
theorem strOf_inj {l k : List Int} (hl : ∀ n ∈ l, 0 ≤ n ∧ n < 256) (hk : ∀ n ∈ k, 0 ≤ n ∧ n < 256) (h : (strOf l).toList = (strOf k).toList) : l = k := by
  rw [strOf_toList, strOf_toList] at h
  apply List.ext_getElem
  · simpa using congrArg List.length h
  · intro i h1 h2
    have := congrArg (fun x => x[i]?) h
    simp only [List.getElem?_map, List.getElem?_eq_getElem h1, List.getElem?_eq_getElem h2, Option.map_some, Option.some.injEq] at this
    have a1 := hl l[i] (List.getElem_mem h1)
    have a2 := hk k[i] (List.getElem_mem h2)
    have := congrArg UInt8.toNat this
    simp only [UInt8.toNat_ofNat'] at this
    omega
theorem flat_mem {l : List Int} {b : Int} (h : b ∈ l.flatMap le8) : 0 ≤ b ∧ b < 256 := by
  obtain ⟨n, _, h⟩ := List.mem_flatMap.1 h
  exact le8_mem h
theorem text_eq {l k : List Int} (hl : ∀ n ∈ l, I64 n) (hk : ∀ n ∈ k, I64 n) : ((strOf (l.flatMap le8)).toList == (strOf (k.flatMap le8)).toList) = decide (l = k) := by
  rw [Bool.eq_iff_iff, beq_iff_eq, decide_eq_true_iff]
  refine ⟨fun h => flat_le8_inj hl hk (strOf_inj (fun _ => flat_mem) (fun _ => flat_mem) h), fun h => by rw [h]⟩
theorem flB_eq (n : Nat) : flB n = le8 (n : Int) := by
  unfold flB le8
  rfl
theorem bits_eq {a b : Nat} (ha : a < 18446744073709551616) (hb : b < 18446744073709551616) : ((strOf (flB a)).toList == (strOf (flB b)).toList) = decide (a = b) := by
  rw [Bool.eq_iff_iff, beq_iff_eq, decide_eq_true_iff]
  refine ⟨fun h => ?_, fun h => by rw [h]⟩
  have h := strOf_inj (fun n hn => le8_mem (by rw [← flB_eq]; exact hn)) (fun n hn => le8_mem (by rw [← flB_eq]; exact hn)) h
  rw [flB_eq, flB_eq, le8_eq, le8_eq] at h
  simp only [List.cons.injEq, and_true] at h
  obtain ⟨h0, h1, h2, h3, h4, h5, h6, h7⟩ := h
  omega
/-- Numbers that a machine has. -/
def InSt (s : St) : Prop := ∀ n ∈ stL s, I64 n
def InSc (s : Sc) : Prop := (∀ n ∈ appL s, I64 n) ∧ s.room < 18446744073709551616 ∧ ∀ n ∈ actsL s.acts, I64 n
theorem sameB_eq {x y : Sc} (hx : InSc x) (hy : InSc y) : sameB x y = decide (appL x = appL y ∧ x.room = y.room ∧ actsL x.acts = actsL y.acts) := by
  unfold sameB
  rw [text_eq hx.1 hy.1, bits_eq hx.2.1 hy.2.1, text_eq hx.2.2 hy.2.2]
  simp only [Bool.decide_and]
end Go.Proofs.TR

/- What is cut is small, and has numbers that a machine has. -/
namespace Go.Proofs.TR
open Go Go.Idl Go.Proofs
def gSt (s : St) : Prop := I64 s.mode ∧ (∀ w ∈ s.waits, I64 w) ∧ (∀ p ∈ s.picks, I64 p.1 ∧ ∀ x ∈ p.2, I64 x.1 ∧ I64 x.2) ∧ ∀ t ∈ s.takes, I64 t.1 ∧ I64 t.2.1 ∧ I64 t.2.2
def gNd (n : Nd) : Prop := I64 n.start ∧ ∀ s ∈ n.states, gSt s
def gSc (s : Sc) : Prop := I64 s.N ∧ (∀ x ∈ s.ls, I64 x.1 ∧ I64 x.2) ∧ (∀ n ∈ s.T, gNd n) ∧ s.room < 18446744073709551616 ∧ ∀ t ∈ s.acts, I64 t.1 ∧ I64 t.2.1 ∧ I64 t.2.2
def Fit (s : Sc) : Prop := s.ls.length ≤ 40 ∧ s.T.length ≤ 8 ∧ (∀ n ∈ s.T, OkNd n) ∧ s.acts.length ≤ 100
theorem cutSt_ok (s : St) : OkSt (cutSt s) := by
  refine ⟨?_, ?_, ?_, ?_⟩
  · simp only [cutSt, List.length_take]; omega
  · simp only [cutSt, List.length_map, List.length_take]; omega
  · intro p hp
    simp only [cutSt, List.mem_map] at hp
    obtain ⟨q, _, rfl⟩ := hp
    simp only [cutP, List.length_take]; omega
  · simp only [cutSt, List.length_take]; omega
theorem cutSt_g {s : St} (h : gSt s) : gSt (cutSt s) := by
  obtain ⟨h1, h2, h3, h4⟩ := h
  refine ⟨h1, fun w hw => h2 w (List.mem_of_mem_take hw), fun p hp => ?_, fun t ht => h4 t (List.mem_of_mem_take ht)⟩
  simp only [cutSt, List.mem_map] at hp
  obtain ⟨q, hq, rfl⟩ := hp
  obtain ⟨a, b⟩ := h3 q (List.mem_of_mem_take hq)
  exact ⟨a, fun x hx => b x (List.mem_of_mem_take hx)⟩
theorem cutNd_ok (n : Nd) : OkNd (cutNd n) := by
  refine ⟨?_, fun s hs => ?_⟩
  · simp only [cutNd, List.length_map, List.length_take]; omega
  · simp only [cutNd, List.mem_map] at hs
    obtain ⟨q, _, rfl⟩ := hs
    exact cutSt_ok q
theorem cutNd_g {n : Nd} (h : gNd n) : gNd (cutNd n) := by
  refine ⟨h.1, fun s hs => ?_⟩
  simp only [cutNd, List.mem_map] at hs
  obtain ⟨q, hq, rfl⟩ := hs
  exact cutSt_g (h.2 q (List.mem_of_mem_take hq))
theorem cutT_ok (T : List Nd) : ∀ n ∈ (T.take 8).map cutNd, OkNd n := by
  intro n hn
  simp only [List.mem_map] at hn
  obtain ⟨q, _, rfl⟩ := hn
  exact cutNd_ok q
theorem cutT_g {T : List Nd} (h : ∀ n ∈ T, gNd n) : ∀ n ∈ (T.take 8).map cutNd, gNd n := by
  intro n hn
  simp only [List.mem_map] at hn
  obtain ⟨q, hq, rfl⟩ := hn
  exact cutNd_g (h q (List.mem_of_mem_take hq))
theorem cutSc_fit (s : Sc) : Fit (cutSc s) := by
  refine ⟨?_, ?_, cutT_ok s.T, ?_⟩ <;> simp only [cutSc, List.length_map, List.length_take] <;> omega
theorem cutSc_g {s : Sc} (h : gSc s) : gSc (cutSc s) := by
  obtain ⟨h1, h2, h3, h4, h5⟩ := h
  exact ⟨h1, fun x hx => h2 x (List.mem_of_mem_take hx), cutT_g h3, h4, fun t ht => h5 t (List.mem_of_mem_take ht)⟩
theorem flat_le {α β : Type} {f : α → List β} {c : Nat} : ∀ {l : List α}, (∀ a ∈ l, (f a).length ≤ c) → (l.flatMap f).length ≤ c * l.length
  | [], _ => by simp
  | a :: l, h => by
    have h1 := h a (List.mem_cons_self ..)
    have h2 := flat_le (l := l) fun x hx => h x (List.mem_cons_of_mem _ hx)
    simp only [List.flatMap_cons, List.length_append, List.length_cons, Nat.mul_add, Nat.mul_one]
    omega
theorem stL_small {s : St} (h : OkSt s) : (stL s).length ≤ 400 := by
  obtain ⟨h1, h2, h3, h4⟩ := h
  have a : (s.picks.flatMap pkL).length ≤ 22 * s.picks.length := flat_le fun p hp => by
    have := h3 p hp
    have b : (p.2.flatMap fun x => [x.1, x.2]).length ≤ 2 * p.2.length := flat_le fun x _ => by simp
    simp only [pkL, List.length_cons]; omega
  have b : (s.takes.flatMap fun t => [t.1, t.2.1, t.2.2]).length ≤ 3 * s.takes.length := flat_le fun x _ => by simp
  simp only [stL, List.length_append, List.length_cons, List.length_nil]; omega
theorem ndL_small {n : Nd} (h : OkNd n) : (ndL n).length ≤ 4010 := by
  have a : (n.states.flatMap stL).length ≤ 400 * n.states.length := flat_le fun s hs => stL_small (h.2 s hs)
  have := h.1
  simp only [ndL, List.length_cons]; omega
theorem appL_small {s : Sc} (h : Fit s) : (appL s).length ≤ 40000 := by
  obtain ⟨h1, h2, h3, h4⟩ := h
  have a : (s.T.flatMap ndL).length ≤ 4010 * s.T.length := flat_le fun n hn => ndL_small (h3 n hn)
  have b : (s.ls.flatMap fun x => [x.1, x.2]).length ≤ 2 * s.ls.length := flat_le fun x _ => by simp
  simp only [appL, List.length_append, List.length_cons, List.length_nil]; omega
theorem actsL_small {s : Sc} (h : Fit s) : (actsL s.acts).length ≤ 400 := by
  have := h.2.2.2
  have b : (s.acts.flatMap fun t => [t.1, t.2.1, t.2.2]).length ≤ 3 * s.acts.length := flat_le fun x _ => by simp
  simp only [actsL, List.length_append, List.length_cons, List.length_nil]; omega
theorem i64_nat {n : Nat} (h : n ≤ 1000) : I64 (n : Int) := ⟨by omega, by omega⟩
theorem stL_in {s : St} (h : OkSt s) (g : gSt s) : ∀ n ∈ stL s, I64 n := by
  obtain ⟨h1, h2, h3, h4⟩ := h
  obtain ⟨g1, g2, g3, g4⟩ := g
  intro n hn
  simp only [stL, List.mem_append, List.mem_cons, List.not_mem_nil, or_false, List.mem_flatMap] at hn
  rcases hn with (((((rfl | rfl) | hn) | rfl) | ⟨p, hp, hn⟩) | rfl) | ⟨t, ht, hn⟩
  · exact g1
  · exact i64_nat (by omega)
  · exact g2 n hn
  · exact i64_nat (by omega)
  · obtain ⟨a, b⟩ := g3 p hp
    simp only [pkL, List.mem_cons, List.mem_flatMap, List.not_mem_nil, or_false] at hn
    rcases hn with rfl | rfl | ⟨x, hx, rfl | rfl⟩
    · exact a
    · exact i64_nat (by have := h3 p hp; omega)
    · exact (b x hx).1
    · exact (b x hx).2
  · exact i64_nat (by omega)
  · obtain ⟨a, b, c⟩ := g4 t ht
    rcases hn with rfl | rfl | rfl <;> assumption
theorem appL_in {s : Sc} (h : Fit s) (g : gSc s) : ∀ n ∈ appL s, I64 n := by
  obtain ⟨h1, h2, h3, h4⟩ := h
  obtain ⟨g1, g2, g3, g4, g5⟩ := g
  intro n hn
  simp only [appL, List.mem_append, List.mem_cons, List.not_mem_nil, or_false, List.mem_flatMap] at hn
  rcases hn with (((rfl | rfl) | ⟨x, hx, rfl | rfl⟩) | rfl | rfl) | ⟨t, ht, hn⟩
  · exact g1
  · exact i64_nat (by omega)
  · exact (g2 x hx).1
  · exact (g2 x hx).2
  · unfold fifoN; split <;> exact ⟨by omega, by omega⟩
  · exact i64_nat (by omega)
  · simp only [ndL, List.mem_cons, List.mem_flatMap] at hn
    rcases hn with rfl | rfl | ⟨s, hs, hn⟩
    · exact (g3 t ht).1
    · exact i64_nat (by have := (h3 t ht).1; omega)
    · exact stL_in ((h3 t ht).2 s hs) ((g3 t ht).2 s hs) n hn
theorem actsL_in {s : Sc} (h : Fit s) (g : gSc s) : ∀ n ∈ actsL s.acts, I64 n := by
  have h4 := h.2.2.2
  obtain ⟨g1, g2, g3, g4, g5⟩ := g
  intro n hn
  simp only [actsL, List.mem_append, List.mem_cons, List.not_mem_nil, or_false, List.mem_flatMap] at hn
  rcases hn with rfl | ⟨t, ht, hn⟩
  · exact i64_nat (by omega)
  · obtain ⟨a, b, c⟩ := g5 t ht
    rcases hn with rfl | rfl | rfl <;> assumption
theorem in_of {s : Sc} (h : Fit s) (g : gSc s) : InSc s := ⟨appL_in h g, g.2.2.2.1, actsL_in h g⟩
/-! ### of which one thing is another one -/
theorem app_fifo (s : Sc) : ¬ appL s = appL ⟨s.N, s.ls, s.T, !s.fifo, s.room, s.acts⟩ := by
  intro h
  simp only [appL, List.append_assoc] at h
  have h := List.append_cancel_left h
  have h := List.append_cancel_left h
  simp only [List.cons_append, List.cons.injEq] at h
  have := h.1
  unfold fifoN at this
  cases hf : s.fifo <;> simp [hf] at this
theorem app_N {s : Sc} {m : Int} (hm : s.N ≠ m) : ¬ appL s = appL ⟨m, s.ls, s.T, s.fifo, s.room, s.acts⟩ := by
  intro h
  simp only [appL, List.cons_append, List.nil_append, List.append_assoc, List.cons.injEq] at h
  exact hm h.1
theorem acts_more (l k : List (Int × Int × Int)) (hk : 0 < k.length) : ¬ actsL l = actsL (l ++ k) := by
  intro h
  simp only [actsL, List.cons_append, List.nil_append, List.cons.injEq, List.length_append] at h
  omega
theorem map_id_of {α : Type} {f : α → α} : ∀ {l : List α}, (∀ a ∈ l, f a = a) → l.map f = l
  | [], _ => rfl
  | a :: l, h => by rw [List.map_cons, h a (List.mem_cons_self ..), map_id_of fun x hx => h x (List.mem_cons_of_mem _ hx)]
theorem cutSt_self {s : St} (h : OkSt s) : cutSt s = s := by
  obtain ⟨h1, h2, h3, h4⟩ := h
  unfold cutSt
  rw [List.take_of_length_le h1, List.take_of_length_le h2, List.take_of_length_le h4, map_id_of fun p hp => by unfold cutP; rw [List.take_of_length_le (h3 p hp)]]
theorem cutNd_self {n : Nd} (h : OkNd n) : cutNd n = n := by
  unfold cutNd
  rw [List.take_of_length_le h.1, map_id_of fun s hs => cutSt_self (h.2 s hs)]
theorem cutSc_self {s : Sc} (h : Fit s) (ha : s.acts.length ≤ 60) : cutSc s = s := by
  obtain ⟨h1, h2, h3, h4⟩ := h
  unfold cutSc
  rw [List.take_of_length_le h1, List.take_of_length_le h2, List.take_of_length_le ha, map_id_of fun n hn => cutNd_self (h3 n hn)]
theorem xor1 {x : Nat} (h : x < 18446744073709551616) : (bits .xor .u64 (x : Int) 1).toNat < 18446744073709551616 ∧ ¬ x = (bits .xor .u64 (x : Int) 1).toNat := by
  have e : bits .xor .u64 (x : Int) 1 = ((x ^^^ 1 : Nat) : Int) := bits_xor_u64_nat x 1 h (by decide)
  rw [e, Int.toNat_natCast]
  refine ⟨Nat.xor_lt_two_pow (n := 64) h (by decide), fun h2 => ?_⟩
  have : x ^^^ x = x ^^^ (x ^^^ 1) := congrArg (x ^^^ ·) h2
  rw [← Nat.xor_assoc, Nat.xor_self, Nat.zero_xor] at this
  cases this
/-- Such a script may be told by its numbers; and they are not those of s. -/
def Unlike (s x : Sc) : Prop := x.room < 18446744073709551616 ∧ (appL x).length ≤ 1000000 ∧ (actsL x.acts).length ≤ 1000000 ∧ sameB s x = false
theorem unlike_of {s x : Sc} (fs : Fit s) (gs : gSc s) (fx : Fit x) (gx : gSc x) (h : ¬ (appL s = appL x ∧ s.room = x.room ∧ actsL s.acts = actsL x.acts)) : Unlike s x :=
  ⟨gx.2.2.2.1, Nat.le_trans (appL_small fx) (by omega), Nat.le_trans (actsL_small fx) (by omega), by rw [sameB_eq (in_of fs gs) (in_of fx gx)]; simpa using h⟩
theorem wrap_in (n : Int) : I64 (IntKind.i64.wrap n) := by rw [IntKind.wrap_i64]; unfold I64; omega
theorem like_less {s : Sc} (fs : Fit s) (gs : gSc s) (ac : s.acts.length ≤ 60) {rm : Nat} (hr : rm < 18446744073709551616) (hne : ¬ s.room = rm) :
    Unlike s ⟨s.N, s.ls, s.T, !s.fifo, s.room, s.acts⟩ ∧ Unlike s ⟨s.N, s.ls, s.T, s.fifo, rm, s.acts⟩ ∧ Unlike s ⟨s.N, s.ls, s.T, s.fifo, s.room, s.acts ++ [(0, 0, 0)]⟩ ∧
    Unlike s ⟨IntKind.i64.wrap (s.N + 1), s.ls, s.T, s.fifo, s.room, s.acts⟩ := by
  obtain ⟨f1, f2, f3, f4⟩ := fs
  obtain ⟨g1, g2, g3, g4, g5⟩ := gs
  refine ⟨unlike_of ⟨f1, f2, f3, f4⟩ ⟨g1, g2, g3, g4, g5⟩ ⟨f1, f2, f3, f4⟩ ⟨g1, g2, g3, g4, g5⟩ fun h => app_fifo s h.1,
    unlike_of ⟨f1, f2, f3, f4⟩ ⟨g1, g2, g3, g4, g5⟩ ⟨f1, f2, f3, f4⟩ ⟨g1, g2, g3, hr, g5⟩ fun h => hne h.2.1,
    unlike_of ⟨f1, f2, f3, f4⟩ ⟨g1, g2, g3, g4, g5⟩ ⟨f1, f2, f3, by simp only [List.length_append, List.length_cons, List.length_nil]; omega⟩ ⟨g1, g2, g3, g4, fun t ht => ?_⟩ fun h => acts_more s.acts [(0, 0, 0)] (by decide) h.2.2,
    unlike_of ⟨f1, f2, f3, f4⟩ ⟨g1, g2, g3, g4, g5⟩ ⟨f1, f2, f3, f4⟩ ⟨wrap_in _, g2, g3, g4, g5⟩ fun h => app_N (s := s) (m := IntKind.i64.wrap (s.N + 1)) ?_ h.1⟩
  · simp only [List.mem_append, List.mem_cons, List.not_mem_nil, or_false] at ht
    rcases ht with ht | rfl
    · exact g5 t ht
    · exact ⟨i64_nat (n := 0) (by omega), i64_nat (n := 0) (by omega), i64_nat (n := 0) (by omega)⟩
  · have := g1
    unfold I64 at this
    rw [IntKind.wrap_i64]; omega
theorem cutSc_acts (s : Sc) : (cutSc s).acts.length ≤ 60 := by simp only [cutSc, List.length_take]; omega
end Go.Proofs.TR
