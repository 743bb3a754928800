/- Plain law of merging: rows are put in the order of their keys (insertion sort, as the library does it); two rows of one key are an error. -/
set_option linter.unusedSimpArgs false
set_option linter.unusedVariables false
namespace Go.GN
section
variable {α:Type}
def swp (l:List α) (j:Nat) (x y:α):List α:=(l.set (j+1) y).set j x
def sink (lt:α→α→Bool):Nat→List α→List α
 | 0,l=>l
 | j+1,l=>match l[j+1]?,l[j]? with
   | some x,some y=>if lt x y then sink lt j (swp l j x y) else l
   | _,_=>l
def ins (lt:α→α→Bool):Nat→Nat→List α→List α
 | 0,_,l=>l
 | f+1,i,l=>ins lt f (i+1) (sink lt i l)
end
section
variable {α:Type} (key:α→Int)
end
end Go.GN
