/- Messages that are taken, in whichever order: the plain law. -/
import Derived.Test.YtnbhjoopcaaafaaGreatHTk
set_option linter.unusedSimpArgs false
set_option linter.unusedVariables false
namespace Go.Proofs.HO
open Go Go.Idl Go.Proofs Go.GP
def sIns (l:List (Int × Int)) (m:Int × Int):List (Int × Int):=
 match l with
 | []=> [m]
 | x::r=>if x.1 < m.1 then x::sIns r m else m::x::r
theorem sIns_eq (m:Int × Int): ∀l:List (Int × Int),l.take (posL m.1 l)++m::l.drop (posL m.1 l)=sIns l m
 | []=>rfl
 | x::r=>by
   unfold posL sIns
   split
   ·rw [←sIns_eq m r];rfl
   ·rfl
theorem sIns_len (m:Int × Int): ∀l,(sIns l m).length=l.length+1
 | []=>rfl
 | x::r=>by
   unfold sIns
   split
   ·simp [sIns_len m r]
   ·simp
theorem sIns_mem {m x:Int × Int}: ∀ {l},x∈sIns l m↔x=m∨x∈l
 | []=>by simp [sIns]
 | y::r=>by
   unfold sIns
   split
   ·rw [List.mem_cons,sIns_mem,List.mem_cons];constructor<;>(rintro(h | h | h)<;>simp [h])
   ·simp
theorem up_pw {l:List (Int × Int)}:Up l↔l.Pairwise (fun a b=>a.1 < b.1):=by
 rw [List.pairwise_iff_getElem]
 exact⟨fun h i j hi hj hij=>h i j hj hij,fun h a b hb hab=>h a b (by omega) hb hab⟩
theorem sIns_up {m:Int × Int}: ∀ {l},l.Pairwise (fun a b:Int × Int=>a.1 < b.1)→(∀x∈l,x.1≠m.1)→(sIns l m).Pairwise (fun a b=>a.1 < b.1)
 | [],_,_=>by simp [sIns]
 | y::r,h,hm=>by
   have hy:=hm y (by simp)
   rw [List.pairwise_cons] at h
   unfold sIns
   split
   ·rename_i c
    rw [List.pairwise_cons]
    refine⟨fun x hx=>?_,sIns_up h.2 fun x hx=>hm x (by simp [hx])⟩
    rcases sIns_mem.1 hx with rfl | hx
    ·exact c
    ·exact h.1 x hx
   ·rw [List.pairwise_cons]
    refine⟨fun x hx=>?_,List.pairwise_cons.2 h⟩
    rcases List.mem_cons.1 hx with rfl | hx
    ·omega
    ·have:=h.1 x hx;omega
theorem posL_has {q:Int}: ∀ {l:List (Int × Int)},l.Pairwise (fun a b:Int × Int=>a.1 < b.1)→((∃y,l[posL q l]? =some y∧y.1=q)↔ ∃x∈l,x.1=q)
 | [],_=>by simp [posL]
 | x::r,h=>by
   rw [List.pairwise_cons] at h
   unfold posL
   split
   ·rename_i c
    rw [List.getElem?_cons_succ,posL_has h.2]
    constructor
    ·rintro⟨y,h1,h2⟩;exact⟨y,by simp [h1],h2⟩
    ·rintro⟨y,h1,h2⟩
     rcases List.mem_cons.1 h1 with rfl | h1
     ·omega
     ·exact⟨y,h1,h2⟩
   ·rename_i c
    constructor
    ·rintro⟨y,h1,h2⟩
     simp at h1
     exact⟨x,by simp,by rw [h1];exact h2⟩
    ·rintro⟨y,h1,h2⟩
     refine⟨x,by simp,?_⟩
     rcases List.mem_cons.1 h1 with rfl | h1
     ·exact h2
     ·have:=h.1 y h1;omega
end Go.Proofs.HO
