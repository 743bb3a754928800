/- Plain law of merging: rows are put in the order of their keys (insertion sort, as the library does it); two rows of one key are an error. -/
set_option linter.unusedSimpArgs false
set_option linter.unusedVariables false
namespace Go.GN
section
variable {α:Type}
def swp (l:List α) (j:Nat) (x y:α):List α:=(l.set (j+1) y).set j x
def sink (lt:α→α→Bool):Nat→List α→List α
 | 0,l=>l
 | j+1,l=>match l[j+1]?,l[j]? with
   | some x,some y=>if lt x y then sink lt j (swp l j x y) else l
   | _,_=>l
def ins (lt:α→α→Bool):Nat→Nat→List α→List α
 | 0,_,l=>l
 | f+1,i,l=>ins lt f (i+1) (sink lt i l)
def sortL (lt:α→α→Bool) (l:List α):List α:=ins lt (l.length - 1) 1 l
theorem swp_len (M:List α) (j:Nat) (x y:α):(swp M j x y).length=M.length:=by simp [swp]
theorem sink_len (lt:α→α→Bool): ∀(j:Nat) (l:List α),(sink lt j l).length=l.length
 | 0,l=>rfl
 | j+1,l=>by
   rw [sink]
   split
   ·split
    ·rw [sink_len lt j,swp_len]
    ·rfl
   ·rfl
theorem ins_len (lt:α→α→Bool): ∀(f i:Nat) (l:List α),(ins lt f i l).length=l.length
 | 0,i,l=>rfl
 | f+1,i,l=>by rw [ins,ins_len lt f,sink_len]
theorem sortL_len (lt:α→α→Bool) (l:List α):(sortL lt l).length=l.length:=ins_len ..
def insR (lt:α→α→Bool) (x:α):List α→List α
 | []=> [x]
 | y::r=>if lt x y then y::insR lt x r else x::y::r
theorem sink_insR (lt:α→α→Bool) (x:α): ∀(A B:List α),sink lt A.length (A.reverse++x::B)=(insR lt x A).reverse++B
 | [],B=>by simp [sink,insR]
 | y::A,B=>by
   have hx:((y::A).reverse++x::B)[A.length+1]? =some x:=by
    rw [List.getElem?_append_right (by simp)];simp
   have hy:((y::A).reverse++x::B)[A.length]? =some y:=by
    rw [List.getElem?_append_left (by simp),List.reverse_cons,List.getElem?_append_right (by simp)];simp
   rw [List.length_cons,sink,hx,hy]
   simp only
   unfold insR
   by_cases h:lt x y=true
   ·rw [if_pos h,if_pos h]
    have:swp ((y::A).reverse++x::B) A.length x y=A.reverse++x::(y::B):=by
     unfold swp
     rw [List.reverse_cons,List.append_assoc,List.set_append_right _ _ (by simp),List.set_append_right _ _ (by simp)]
     simp
    rw [this,sink_insR lt x A (y::B)]
    simp
   ·rw [if_neg h,if_neg h]
    simp
theorem insR_perm (lt:α→α→Bool) (x:α): ∀(A:List α),(insR lt x A).Perm (x::A)
 | []=> .refl _
 | y::A=>by
   unfold insR
   split
   ·exact((insR_perm lt x A).cons y).trans (.swap ..)
   ·exact .refl _
theorem insR_mem {lt:α→α→Bool} {x z:α} {A:List α}:z∈insR lt x A↔z=x∨z∈A:=by
 rw [(insR_perm lt x A).mem_iff,List.mem_cons]
end
section
variable {α:Type} (key:α→Int)
def ltK (x y:α):Bool:=decide (key x < key y)
theorem insR_down (x:α): ∀(A:List α),A.Pairwise (fun a b=>key b≤key a)→(insR (ltK key) x A).Pairwise (fun a b=>key b≤key a)
 | [],_=>List.pairwise_singleton ..
 | y::A,h=>by
   obtain⟨h1,h2⟩:=List.pairwise_cons.1 h
   unfold insR
   by_cases hc:ltK key x y=true
   ·rw [if_pos hc]
    unfold ltK at hc
    rw [decide_eq_true_eq] at hc
    refine List.pairwise_cons.2 ⟨fun z hz=>?_,insR_down x A h2⟩
    rcases insR_mem.1 hz with rfl | hz
    ·omega
    ·exact h1 z hz
   ·rw [if_neg hc]
    unfold ltK at hc
    rw [decide_eq_true_eq] at hc
    refine List.pairwise_cons.2 ⟨fun z hz=>?_,h⟩
    rcases List.mem_cons.1 hz with rfl | hz
    ·omega
    ·have:=h1 z hz;omega
def sorted:List α→List α→List α
 | [],A=>A.reverse
 | x::B,A=>sorted B (insR (ltK key) x A)
theorem ins_sorted: ∀(B:List α) (A:List α),ins (ltK key) B.length A.length (A.reverse++B)=sorted key B A
 | [],A=>by simp [ins,sorted]
 | x::B,A=>by
   rw [List.length_cons,ins,sink_insR,sorted,←ins_sorted B]
   rw [(insR_perm (ltK key) x A).length_eq,List.length_cons]
theorem sortL_sorted (l:List α):sortL (ltK key) l=sorted key l []:=by
 cases l with
 | nil=>rfl
 | cons x B=>exact ins_sorted key B [x]
theorem sorted_perm: ∀(B A:List α),(sorted key B A).Perm (A++B)
 | [],A=>by rw [sorted,List.append_nil];exact List.reverse_perm A
 | x::B,A=>by
   rw [sorted]
   refine(sorted_perm B _).trans ?_
   exact((insR_perm _ x A).append_right B).trans (List.perm_middle.symm)
theorem sorted_up: ∀(B A:List α),A.Pairwise (fun a b=>key b≤key a)→(sorted key B A).Pairwise (fun a b=>key a≤key b)
 | [],A,h=>by rw [sorted,List.pairwise_reverse];exact h
 | x::B,A,h=>by rw [sorted];exact sorted_up B _ (insR_down key x A h)
theorem sortL_perm (l:List α):(sortL (ltK key) l).Perm l:=by rw [sortL_sorted];exact sorted_perm key l []
theorem sortL_up (l:List α):(sortL (ltK key) l).Pairwise (fun a b=>key a≤key b):=by rw [sortL_sorted];exact sorted_up key l [] .nil
def twins:List α→Bool
 | x::y::r=>decide (key x=key y) || twins (y::r)
 | _=>false
theorem rising_of_up: ∀ {l:List α},l.Pairwise (fun a b=>key a≤key b)→twins key l=false→l.Pairwise (fun a b=>key a < key b)
 | [],_,_=> .nil
 | [x],_,_=>List.pairwise_singleton ..
 | x::y::r,h,t=>by
   unfold twins at t
   rw [Bool.or_eq_false_iff,decide_eq_false_iff_not] at t
   obtain⟨h1,h2⟩:=List.pairwise_cons.1 h
   have ih:=rising_of_up h2 t.2
   refine List.pairwise_cons.2 ⟨fun z hz=>?_,ih⟩
   have hy:=h1 y (List.mem_cons_self ..)
   rcases List.mem_cons.1 hz with rfl | hz
   ·omega
   ·have:=(List.pairwise_cons.1 ih).1 z hz;omega
theorem twins_of_rising: ∀ {l:List α},l.Pairwise (fun a b=>key a < key b)→twins key l=false
 | [],_=>rfl
 | [_],_=>rfl
 | x::y::r,h=>by
   obtain⟨h1,h2⟩:=List.pairwise_cons.1 h
   have:=h1 y (List.mem_cons_self ..)
   unfold twins
   rw [Bool.or_eq_false_iff,decide_eq_false_iff_not]
   exact⟨by omega,twins_of_rising h2⟩
theorem rising_perm: ∀ {l k:List α},l.Perm k→l.Pairwise (fun a b=>key a < key b)→k.Pairwise (fun a b=>key a < key b)→l=k
 | [],k,p,_,_=>(List.nil_perm.1 p).symm
 | x::l, [],p,_,_=>List.perm_nil.1 p
 | x::l,y::k,p,hl,hk=>by
   obtain⟨h1,h2⟩:=List.pairwise_cons.1 hl
   obtain⟨k1,k2⟩:=List.pairwise_cons.1 hk
   have e:x=y:=by
    rcases List.mem_cons.1 (p.mem_iff.1 (List.mem_cons_self (a:=x) (l:=l))) with h | h
    ·exact h
    ·rcases List.mem_cons.1 (p.mem_iff.2 (List.mem_cons_self (a:=y) (l:=k))) with g | g
     ·exact g.symm
     ·have a:=k1 x h
      have b:=h1 y g
      omega
   subst e
   rw [rising_perm ((List.perm_cons _).1 p) h2 k2]
def merge (l k:List α):Option (List α):=let s:=sortL (ltK key) (l++k);if twins key s then none else some s
theorem merge_some {l k s:List α}:merge key l k=some s↔s.Perm (l++k)∧s.Pairwise (fun a b=>key a < key b):=by
 unfold merge
 constructor
 ·intro h
  simp only at h
  split at h
  ·cases h
  ·rename_i ht
   cases h
   exact⟨sortL_perm key _,rising_of_up key (sortL_up key _) (by simpa using ht)⟩
 ·rintro⟨p,r⟩
  have q:=sortL_perm key (l++k)
  have nd:(s.map key).Nodup:=by
   rw [List.nodup_iff_pairwise_ne,List.pairwise_map]
   exact r.imp fun h=>by omega
  have nd2:((sortL (ltK key) (l++k)).map key).Nodup:=((p.trans q.symm).map key).nodup_iff.1 nd
  have r2:(sortL (ltK key) (l++k)).Pairwise (fun a b=>key a < key b):=by
   rw [List.nodup_iff_pairwise_ne,List.pairwise_map] at nd2
   exact(nd2.and (sortL_up key (l++k))).imp fun⟨a,b⟩=>by omega
  have e:=rising_perm key (p.trans q.symm) r r2
  simp only
  rw [twins_of_rising key r2,e]
  rfl
theorem merge_len {l k s:List α} (h:merge key l k=some s):s.length=l.length+k.length:=by
 rw [((merge_some key).1 h).1.length_eq,List.length_append]
end
end Go.GN
