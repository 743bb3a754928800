/-
  One function for the operations that are no calls of Go functions.
-/
import Derived.Test.YtkbbafmaddkehaaIdNa
namespace Go.Idl
variable {P : Program} {o : Oper} {ρ : Operand → Option IV} {G : Nat → Option IBlk}

/-- Such an operation at a state: what it gives. (own: the slots of literals that are to be owned.) -/
def fop (P : Program) (ρ : Operand → Option IV) (G : Nat → Option IBlk) (nx : Nat) : Op → Option FR
  | .move y | .assign y => (ρ y).map fun z => { x := z }
  | .pick c x y => match ρ c, ρ x, ρ y with
    | some (.p (.sc (.bool t))), some u, some v => some { x := if t then u else v }
    | _, _, _ => none
  | .load t y => (ρ y).bind (fload P G t)
  | .fieldAddr s y f => (ρ y).bind (ffaddr P s f)
  | .indexAddr t x i => match ρ x, ρ i with
    | some zx, some zi => fiaddr P G t zx zi
    | _, _ => none
  | .index t x i => match ρ x, ρ i with
    | some zx, some zi => findex P t zx zi
    | _, _ => none
  | .field t x f => (ρ x).bind (ffield P t f)
  | .slice t x lo hi mx => match ρ x, ropt ρ lo, ropt ρ hi, ropt ρ mx with
    | some zx, some zlo, some zhi, some zmx => fslice P G t zx zlo zhi zmx
    | _, _, _, _ => none
  | .binOp op t x y _ => match ρ x, ρ y with
    | some zx, some zy => orE (fbin P op t zx zy) (fnanop op zx zy)
    | _, _ => none
  | .unOp op _ x => (ρ x).bind (fun1 op)
  | .convert s d x => (ρ x).bind (fconv P s d)
  | .extract x i => (ρ x).bind (fextract i)
  | .makeFunc fn first cap => match rlist ρ first.toList, rlist ρ cap.toList with
    | some zf, some zc => some { x := .clo fn zf zc }
    | _, _ => none
  | .makeInterface t x => (ρ x).bind (fiface P t)
  | .nilCheck x => (ρ x).bind fnil
  | .build t parts => (rparts ρ parts.toList).bind (fbuild P t)
  | .buildSlice t len parts => (rparts ρ parts.toList).bind (fbslice P t len)
  | .box _ x => (ρ x).bind (fbox nx)
  | .alloc t => falloc P nx t
  | .makeSlice t l c => match ρ l, ρ c with
    | some zl, some zc => fmake P nx t zl zc
    | _, _ => none
  | .store t p x => match ρ p, ρ x with
    | some zp, some zx => fstore P G t zp zx
    | _, _ => none
  | .call { callee := .builtin b, args, argTypes } => match b with
    | .len => match args.toList, argTypes.toList with
      | [x], [t] => (ρ x).bind fun zx => if flenOk P t zx then flen G zx else none
      | _, _ => none
    | .append => match args.toList, argTypes.toList with
      | [s, x], [t1, t2] => match ρ s, ρ x with
        | some zs, some zx => fapp P G nx t1 t2 zs zx
        | _, _ => none
      | _, _ => none
    | .copy => match args.toList, argTypes.toList with
      | [s, x], t1 :: _ => match ρ s, ρ x with
        | some zs, some zx => fcopy P G t1 zs zx
        | _, _ => none
      | _, _ => none
    | .max => (rlist ρ args.toList).bind (fmax true)
    | .min => (rlist ρ args.toList).bind (fmax false)
    | _ => none
  | .call { callee := .value f, args, argTypes := _ } => fcallx P ρ f args.toList
  | _ => none

/-- The reach of what it gives. -/
structure FR.fits (fr : FR) (G : Nat → Option IBlk) (nx : Nat) : Prop where
  reads : ∀ p ∈ fr.R, G p.1 = some p.2
  new : (fr.F = [] ∧ ∀ p ∈ fr.W, ∃ blk, (p.1, blk) ∈ fr.R) ∨ (fr.F = [nx] ∧ ∃ blk, fr.W = [(nx, blk)])

theorem fits_read {x : IV} {nx : Nat} : FR.fits { x } G nx := ⟨by simp, .inl ⟨rfl, by simp⟩⟩

theorem irows_reads {sz : Nat} {z : IV} {rs : List (List IV)} {R : List (Nat × IBlk)} (h : irows G sz z = some (rs, R)) : ∀ p ∈ R, G p.1 = some p.2 := by
  unfold irows at h
  split at h
  · split at h
    · simp only [Option.some.injEq, Prod.mk.injEq] at h; rw [← h.2]; simp
    · cases h
  · simp only [Option.some.injEq, Prod.mk.injEq] at h; rw [← h.2]; simp
  · simp only [Option.some.injEq, Prod.mk.injEq] at h; rw [← h.2]; simp
  · split at h
    · rename_i hb
      split at h
      · simp only [Option.some.injEq, Prod.mk.injEq] at h; rw [← h.2]; simpa using hb
      · cases h
    · cases h
  · cases h
theorem iapp_reads {sz : Nat} {z : IV} {rs : List (List IV)} {R : List (Nat × IBlk)} (h : iapp G sz z = some (rs, R)) : ∀ p ∈ R, G p.1 = some p.2 := by
  unfold iapp at h
  split at h
  · split at h
    · simp only [Option.some.injEq, Prod.mk.injEq] at h; rw [← h.2]; simp
    · cases h
  · exact irows_reads h

theorem fop_sound {nx : Nat} {fr : FR} (h : fop P ρ G nx o.op = some fr) : fr.ok P o ρ ∧ fr.fits G nx := by
  obtain ⟨dst, op, ty, pos, after, guard⟩ := o
  cases op
  case move y =>
    simp only [fop, Option.map_eq_some_iff] at h
    obtain ⟨z, hz, rfl⟩ := h
    exact ⟨f_move (.inl rfl) hz, fits_read⟩
  case assign y =>
    simp only [fop, Option.map_eq_some_iff] at h
    obtain ⟨z, hz, rfl⟩ := h
    exact ⟨f_move (.inr rfl) hz, fits_read⟩
  case pick c x y =>
    simp only [fop] at h
    split at h
    · rename_i t u v hc hx hy
      simp only [Option.some.injEq] at h; subst h
      exact ⟨f_pick rfl hc hx hy, fits_read⟩
    · cases h
  case load t y =>
    simp only [fop, Option.bind_eq_some_iff] at h
    obtain ⟨z, hz, h⟩ := h
    refine ⟨f_load rfl hz h, ?_⟩
    unfold fload at h
    split at h
    · split at h
      · rename_i hb
        split at h
        · split at h
          · simp only [Option.map_eq_some_iff] at h
            obtain ⟨x, _, rfl⟩ := h
            exact ⟨by simpa using hb, .inl ⟨rfl, by simp⟩⟩
          · cases h
        · cases h
      · cases h
    · simp only [Option.map_eq_some_iff] at h
      obtain ⟨x, _, rfl⟩ := h
      exact fits_read
    · cases h
  case fieldAddr s y f =>
    simp only [fop, Option.bind_eq_some_iff] at h
    obtain ⟨z, hz, h⟩ := h
    refine ⟨f_faddr rfl hz h, ?_⟩
    unfold ffaddr at h
    split at h
    all_goals first
      | (cases h; done)
      | (split at h
         · split at h
           · simp only [Option.some.injEq] at h; subst h; exact fits_read
           · cases h
         · cases h)
  case indexAddr t x i =>
    simp only [fop] at h
    split at h
    · rename_i zx zi hx hi
      refine ⟨f_iaddr rfl hx hi h, ?_⟩
      unfold fiaddr at h
      split at h
      · split at h
        · split at h
          · split at h
            · split at h
              · simp only [Option.some.injEq] at h; subst h; exact fits_read
              · cases h
            · cases h
          · cases h
        · cases h
      · split at h
        · split at h
          · rename_i hb
            split at h
            · simp only [Option.some.injEq] at h; subst h; exact ⟨by simpa using hb, .inl ⟨rfl, by simp⟩⟩
            · cases h
          · cases h
        · cases h
      · split at h
        · split at h
          · simp only [Option.some.injEq] at h; subst h; exact fits_read
          · cases h
        · cases h
      · split at h
        · split at h
          · simp only [Option.some.injEq] at h; subst h; exact fits_read
          · cases h
        · cases h
      · cases h
    · cases h
  case index t x i =>
    simp only [fop] at h
    split at h
    · rename_i zx zi hx hi
      refine ⟨f_index rfl hx hi h, ?_⟩
      unfold findex at h
      split at h
      · split at h
        · split at h
          · simp only [Option.map_eq_some_iff] at h; obtain ⟨x, _, rfl⟩ := h; exact fits_read
          · cases h
        · cases h
      · split at h
        · simp only [Option.map_eq_some_iff] at h; obtain ⟨x, _, rfl⟩ := h; exact fits_read
        · cases h
      · cases h
    · cases h
  case field t x f =>
    simp only [fop, Option.bind_eq_some_iff] at h
    obtain ⟨z, hz, h⟩ := h
    refine ⟨f_field rfl hz h, ?_⟩
    unfold ffield at h
    split at h
    · split at h
      · simp only [Option.map_eq_some_iff] at h; obtain ⟨x, _, rfl⟩ := h; exact fits_read
      · cases h
    · cases h
  case slice t x lo hi mx =>
    simp only [fop] at h
    split at h
    · rename_i zx zlo zhi zmx hx hlo hhi hmx
      refine ⟨f_slice rfl hx hlo hhi hmx h, ?_⟩
      unfold fslice at h
      split at h
      · split at h
        · split at h
          · split at h
            · simp only [Option.some.injEq] at h; subst h; exact fits_read
            · cases h
          · cases h
        · split at h
          · rename_i hb
            split at h
            · simp only [Option.some.injEq] at h; subst h; exact ⟨by simpa using hb, .inl ⟨rfl, by simp⟩⟩
            · cases h
          · cases h
        · split at h
          · simp only [Option.some.injEq] at h; subst h; exact fits_read
          · cases h
        · split at h
          · simp only [Option.some.injEq] at h; subst h; exact fits_read
          · cases h
        · split at h
          · simp only [Option.some.injEq] at h; subst h; exact fits_read
          · cases h
        · cases h
      · split at h
        all_goals first
          | (cases h; done)
          | (simp only [Option.some.injEq] at h; subst h; exact fits_read)
    · cases h
  case binOp op t x y t' =>
    simp only [fop] at h
    split at h
    · rename_i zx zy hx hy
      unfold orE at h
      split at h
      · rename_i fr' h'
        cases h
        refine ⟨f_bin rfl hx hy h', ?_⟩
        unfold fbin at h'
        split at h'
        · simp only [Option.map_eq_some_iff] at h'; obtain ⟨x, _, rfl⟩ := h'; exact fits_read
        · cases h'
      · obtain ⟨h1, h2, h3, h4⟩ := f_nanop (o := ⟨dst, .binOp op t x y t', ty, pos, after, guard⟩) rfl hx hy h
        refine ⟨h1, ?_, .inl ⟨h3, ?_⟩⟩
        · rw [h2]; simp
        · rw [h4]; simp
    · cases h
  case unOp op t x =>
    simp only [fop, Option.bind_eq_some_iff] at h
    obtain ⟨z, hz, h⟩ := h
    refine ⟨f_un rfl hz h, ?_⟩
    unfold fun1 at h
    split at h
    · simp only [Option.map_eq_some_iff] at h; obtain ⟨x, _, rfl⟩ := h; exact fits_read
    · cases h
  case convert s d x =>
    simp only [fop, Option.bind_eq_some_iff] at h
    obtain ⟨z, hz, h⟩ := h
    refine ⟨f_conv rfl hz h, ?_⟩
    unfold fconv at h
    split at h
    · simp only [Option.map_eq_some_iff] at h; obtain ⟨x, _, rfl⟩ := h; exact fits_read
    · cases h
  case extract x i =>
    simp only [fop, Option.bind_eq_some_iff] at h
    obtain ⟨z, hz, h⟩ := h
    refine ⟨f_extract rfl hz h, ?_⟩
    unfold fextract at h
    split at h
    · simp only [Option.map_eq_some_iff] at h; obtain ⟨x, _, rfl⟩ := h; exact fits_read
    · cases h
  case makeFunc fn first cap =>
    simp only [fop] at h
    split at h
    · rename_i zf zc hf hc
      simp only [Option.some.injEq] at h; subst h
      exact ⟨f_func (first := first.toList) (cap := cap.toList) rfl hf hc, fits_read⟩
    · cases h
  case makeInterface t x =>
    simp only [fop, Option.bind_eq_some_iff] at h
    obtain ⟨z, hz, h⟩ := h
    refine ⟨f_iface rfl hz h, ?_⟩
    unfold fiface at h
    split at h
    · split at h
      · cases h
      · simp only [Option.some.injEq] at h; subst h; exact fits_read
      · cases h
    · split at h
      · cases h
      · simp only [Option.some.injEq] at h; subst h; exact fits_read
      · cases h
    · cases h
  case nilCheck x =>
    simp only [fop, Option.bind_eq_some_iff] at h
    obtain ⟨z, hz, h⟩ := h
    refine ⟨f_nil rfl hz h, ?_⟩
    unfold fnil at h
    split at h
    all_goals first
      | (cases h; done)
      | (simp only [Option.some.injEq] at h; subst h; exact fits_read)
  case build t parts =>
    simp only [fop, Option.bind_eq_some_iff] at h
    obtain ⟨z, hz, h⟩ := h
    refine ⟨f_build (parts := parts.toList) rfl hz h, ?_⟩
    unfold fbuild at h
    split at h
    · split at h
      · split at h
        · simp only [Option.map_eq_some_iff] at h; obtain ⟨x, _, rfl⟩ := h; exact fits_read
        · split at h
          · simp only [Option.map_eq_some_iff] at h; obtain ⟨x, _, rfl⟩ := h; exact fits_read
          · cases h
        · cases h
      · cases h
    · cases h
  case buildSlice t len parts =>
    simp only [fop, Option.bind_eq_some_iff] at h
    obtain ⟨z, hz, h⟩ := h
    refine ⟨f_bslice (parts := parts.toList) rfl hz h, ?_⟩
    unfold fbslice at h
    split at h
    · split at h
      · simp only [Option.some.injEq] at h; subst h; exact fits_read
      · cases h
    · cases h
  case box t x =>
    simp only [fop, Option.bind_eq_some_iff] at h
    obtain ⟨z, hz, h⟩ := h
    refine ⟨f_box rfl hz h, ?_⟩
    unfold fbox at h
    simp only [Option.map_eq_some_iff] at h
    obtain ⟨cs, _, rfl⟩ := h
    exact ⟨by simp, .inr ⟨rfl, _, rfl⟩⟩
  case alloc t =>
    simp only [fop] at h
    refine ⟨f_alloc rfl h, ?_⟩
    unfold falloc at h
    split at h
    · split at h
      · simp only [Option.some.injEq] at h; subst h; exact ⟨by simp, .inr ⟨rfl, _, rfl⟩⟩
      · cases h
    · cases h
  case makeSlice t l c =>
    simp only [fop] at h
    split at h
    · rename_i zl zc hl hc
      refine ⟨f_make rfl hl hc h, ?_⟩
      unfold fmake at h
      split at h
      · split at h
        · split at h
          · split at h
            · simp only [Option.some.injEq] at h; subst h; exact ⟨by simp, .inr ⟨rfl, _, rfl⟩⟩
            · cases h
          · cases h
        · cases h
      · cases h
    · cases h
  case store t p x =>
    simp only [fop] at h
    split at h
    · rename_i zp zx hp hx
      refine ⟨f_store rfl hp hx h, ?_⟩
      unfold fstore at h
      split at h
      · split at h
        · rename_i hb hn
          split at h
          · split at h
            · split at h
              · simp only [Option.some.injEq] at h; subst h; exact ⟨by simpa using hb, .inl ⟨rfl, by simp⟩⟩
              · cases h
            · cases h
          · cases h
        · cases h
      · cases h
    · cases h
  case call c =>
    obtain ⟨callee, args, argTypes⟩ := c
    cases callee
    case builtin b =>
      simp only [fop] at h
      split at h
      · split at h
        · rename_i x t ha ht
          simp only [Option.bind_eq_some_iff] at h
          obtain ⟨zx, hx, h⟩ := h
          split at h
          · rename_i hk
            have ea : args = #[x] := by apply Array.ext'; simpa using ha
            have et : argTypes = #[t] := by apply Array.ext'; simpa using ht
            subst ea; subst et
            refine ⟨f_len rfl hx hk h, ?_⟩
            unfold flen at h
            split at h
            all_goals first
              | (cases h; done)
              | (simp only [Option.some.injEq] at h; subst h; exact fits_read)
              | (split at h
                 · rename_i hb; simp only [Option.some.injEq] at h; subst h; exact ⟨by simpa using hb, .inl ⟨rfl, by simp⟩⟩
                 · cases h)
          · cases h
        · cases h
      · split at h
        · rename_i s x t1 t2 ha ht
          split at h
          · rename_i zs zx hs hx
            have ea : args = #[s, x] := by apply Array.ext'; simpa using ha
            have et : argTypes = #[t1, t2] := by apply Array.ext'; simpa using ht
            subst ea; subst et
            refine ⟨f_app rfl hs hx h, ?_⟩
            unfold fapp at h
            split at h
            · split at h
              · rename_i hrx
                split at h
                · split at h
                  · simp only [Option.some.injEq] at h; subst h; exact ⟨iapp_reads hrx, .inr ⟨rfl, _, rfl⟩⟩
                  · cases h
                · split at h
                  · simp only [Option.some.injEq] at h; subst h; exact ⟨iapp_reads hrx, .inr ⟨rfl, _, rfl⟩⟩
                  · cases h
                · split at h
                  · rename_i rs Rs hrs
                    split at h
                    · simp only [Option.some.injEq] at h; subst h
                      refine ⟨fun p hp => ?_, .inl ⟨rfl, ?_⟩⟩
                      · rcases List.mem_append.1 hp with hp | hp
                        · exact irows_reads hrs p hp
                        · exact iapp_reads hrx p hp
                      · have hrs' := hrs
                        unfold irows at hrs'
                        simp only at hrs'
                        split at hrs'
                        · split at hrs'
                          · simp only [Option.some.injEq, Prod.mk.injEq] at hrs'
                            rw [← hrs'.2]
                            simp only [List.mem_cons, List.not_mem_nil, or_false, forall_eq]
                            exact ⟨_, List.mem_append.2 (.inl (List.mem_cons_self))⟩
                          · cases hrs'
                        · cases hrs'
                    · cases h
                  · cases h
                · cases h
              · cases h
            · cases h
          · cases h
        · cases h
      · split at h
        · rename_i s x t1 ts ha ht
          split at h
          · rename_i zs zx hs hx
            have ea : args = #[s, x] := by apply Array.ext'; simpa using ha
            have et : argTypes[0]? = some t1 := by rw [← Array.getElem?_toList, ht]; rfl
            subst ea
            refine ⟨f_copy rfl et hs hx h, ?_⟩
            unfold fcopy at h
            split at h
            · split at h
              · split at h
                · rename_i hb hrx
                  split at h
                  · simp only [Option.some.injEq] at h; subst h
                    refine ⟨fun p hp => ?_, .inl ⟨rfl, ?_⟩⟩
                    · rcases List.mem_cons.1 hp with rfl | hp
                      · exact hb
                      · exact iapp_reads hrx p hp
                    · simp only [List.mem_cons, List.not_mem_nil, or_false, forall_eq]
                      exact ⟨_, .inl rfl⟩
                  · cases h
                · cases h
              · cases h
            · cases h
          · cases h
        · cases h
      · simp only [Option.bind_eq_some_iff] at h
        obtain ⟨zs, hz, h⟩ := h
        refine ⟨f_max (mx := true) (args := args.toList) rfl hz h, ?_⟩
        unfold fmax at h
        split at h
        · simp only [Option.map_eq_some_iff] at h; obtain ⟨x, _, rfl⟩ := h; exact fits_read
        · cases h
      · simp only [Option.bind_eq_some_iff] at h
        obtain ⟨zs, hz, h⟩ := h
        refine ⟨f_max (mx := false) (args := args.toList) rfl hz h, ?_⟩
        unfold fmax at h
        split at h
        · simp only [Option.map_eq_some_iff] at h; obtain ⟨x, _, rfl⟩ := h; exact fits_read
        · cases h
      · cases h
    case value f =>
      simp only [fop] at h
      obtain ⟨args⟩ := args
      obtain ⟨h1, h2, h3, h4⟩ := f_callx (o := ⟨dst, .call { callee := .value f, args := ⟨args⟩, argTypes := argTypes }, ty, pos, after, guard⟩) rfl h
      refine ⟨h1, ?_, .inl ⟨h3, ?_⟩⟩
      · rw [h2]; simp
      · rw [h4]; simp
    all_goals (simp [fop] at h)
  all_goals (simp [fop] at h)

end Go.Idl
