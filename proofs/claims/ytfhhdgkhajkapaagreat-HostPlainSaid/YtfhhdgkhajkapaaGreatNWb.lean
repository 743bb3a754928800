/- Facts that the proofs of this claim lean on. -/
import Derived.Test.YtfhhdgkhajkapaaGreatNQC
import Derived.Test.YtfhhdgkhajkapaaGreatNGb
import Derived.Test.YtfhhdgkhajkapaaGreatNH4
import Derived.Test.YtfhhdgkhajkapaaGreatNKa
set_option linter.unusedSimpArgs false
set_option linter.unusedVariables false
/- Whether there are all pieces. -/
namespace Go.Proofs.NO
open Go Go.Idl Go.Proofs Go.GP
set_option maxHeartbeats 20000000
set_option maxRecDepth 100000
theorem qoa (N n:Int) (ls:List (Int × Int)) (hl:ls.length≤1000000):Pure Tryz.prog 171 [eG N ls,sci .i64 n,sci .i64 1] (lI (ins n 0 ls)):=by
 refine qah 200 (fn:=Tryz.f171) Tryz.func171 rfl (by simp [Tryz.ntmps171]) zB zB fun hs=>?_
 try refine zW ?_
 refine qbk 7 1 trivial rfl (.inr rfl) ?_
 (refine walk_trim [1,2,7,11,12,13] trivial zL ?_;((try refine zW ?_);(try with_reducible exact True.intro)))
 refine qal 200 200 (fun i:Nat × Nat × List Int=>i.1≤ls.length∧i.2.2.length≤i.1∧i.2.2++ins n i.1 (ls.drop i.1)=ins n 0 ls)
  (fun i=>⟨29, [(1,sci .i64 n),(2,sci .i64 1),(7, .ref 1 i.2.1 0 i.2.2.length),(11,lII ls),(12,sci .i64 ls.length),(13,sci .i64 i.1)], [],2,
   [(1, .arr 1 i.2.1 (ir eI i.2.2))]⟩) (fun i=>ls.length - i.1) (0,0, []) [] ?_ ?_ ?_
 ·simp
 ·constructor<;>(try simp (disch:=omega) only [go_sem,simprocAttr,zD,zE,Int.natCast_zero])
 ·rintro⟨i,g,acc⟩ ⟨h1,h2,h3⟩
  simp only at h1 h2 h3
  try refine zW ?_
  by_cases hi:i < ls.length
  ·rw [qbI hi] at h3
   (try simp (disch:=omega) only [go_sem,simprocAttr,zD,zE,eII])
   by_cases hc:ls[i].2=n
   ·(try simp (disch:=omega) only [go_sem,simprocAttr,zD,zE,hc])
    refine⟨(i+1,g+1,acc++ [(i:Int)]), [],⟨hi,by simp;omega,by simpa [ins,hc] using h3⟩,by simp only;omega,?_⟩
    constructor<;>((try refine zO ?_);(try with_reducible exact True.intro))
   ·(try simp (disch:=omega) only [go_sem,simprocAttr,zD,zE,hc])
    refine⟨(i+1,g,acc), [],⟨hi,by simp only;omega,by simpa [ins,hc] using h3⟩,by simp only;omega,?_⟩
    constructor<;>((try refine zO ?_);(try with_reducible exact True.intro))
  ·obtain rfl:i=ls.length:=by omega
   rw [List.drop_length] at h3
   (try simp (disch:=omega) only [go_sem,simprocAttr,zD,zE,←h3,ins])
theorem qd1 (N n:Int) (ls:List (Int × Int)) (hl:ls.length≤1000000):Pure Tryz.prog 89 [eG N ls,sci .i64 n] (lI (ins n 0 ls)):=by
 refine qah 200 (fn:=Tryz.f89) Tryz.func89 rfl (by simp [Tryz.ntmps89]) zB zB fun hs=>?_
 try refine zW ?_
 (refine qaf 200 ?_;refine zW ?_;refine callA_of (qoa _ _ _ hl) zB ?_;((try refine zW ?_);(try with_reducible exact True.intro)))
 ((try refine zW ?_);(try with_reducible exact True.intro))
def PcAt (ls:List (Int × Int)) (T:List Nd) (n:Nat) (p:Pc):Prop:=
 p.node=n∧qjv p∧(∀x,T[n]? =some x→p.state < x.states.length)∧p.sent.length=(outs n 0 ls).length∧p.inn.length=(ins n 0 ls).length
def qmM (N:Int) (ls:List (Int × Int)) (T:List Nd) (l:List Pc):Prop:=TabP N ls T∧(l.length:Int)=N∧ ∀(n:Nat) (p:Pc),l[n]? =some p→PcAt ls T n p
end Go.Proofs.NO
