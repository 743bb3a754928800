/- What is built of pieces that are not whole. -/
import Derived.Test.YteebghpjgcacmaaGreatYWb
import Derived.Test.YteebghpjgcacmaaGreatIdCn
set_option linter.unusedSimpArgs false
set_option linter.unusedVariables false
namespace Go.Proofs.GY
open Go Go.Idl Go.Proofs Go.GP
set_option maxHeartbeats 20000000
set_option maxRecDepth 100000
def gch:List PanicEntry:= [{v:= .iface 128 (.agg #[]),recovered:=false}]
theorem gmust_spec:Pure Tryz.prog 64 [scb true] (.tup []):=by
 refine pcall0 200 (fn:=Tryz.f64) Tryz.func64 rfl (by simp [Tryz.ntmps64]) zB zB fun hs=>?_
 ((try refine zW ?_);(try with_reducible exact True.intro))
theorem gmust_px:PX Tryz.prog 64 [scb false] [] gch (fun W=>W= []):=by
 refine px_of 200 (fn:=Tryz.f64) Tryz.func64 rfl (by simp [Tryz.ntmps64]) 0 rfl zC zC fun hs=>?_
 ((try refine zW ?_);(try with_reducible exact True.intro))
 refine at_panic rfl rfl ?_
 (refine endX_of [] ?_ ?_ ?_ ?_ ?_<;>first | exact rfl | decide | omega | exact zU)
theorem tzvG:tzv Tryz.prog 128=some (.agg ⟨[]⟩):=by kernel_rfl
abbrev zCf:IV:= .agg [lI [], .p (.imm 1 []),lI []]
theorem BuildNo_spec (s:Sc) (l:List Pc) (logs:Bool) (hl:s.ls.length≤1000000) (hT:SmallT s.T) (hg: ∀p∈l,gPc p) (hw: ¬WholeP s.N s.ls s.T l):Pure Tryz.prog 21 [lApp s,lPs l,scb logs] (.tup [zCf,sci .i64 4]):=by
 have e:=tB_neg hw
 obtain⟨N,ls,T,ff,room,acts⟩:=s
 simp only at hl hT e
 refine pcall_d0 200 (fn:=Tryz.f21) Tryz.func21 rfl (by simp [Tryz.ntmps21]) zB zB fun hs=>?_
 ((try refine zW ?_);(try with_reducible exact True.intro))
 refine at_defer 200 (x:=⟨.func 63, [.ptr 1 0 0 0, .ptr 2 0 0 0], []⟩) rfl rfl rfl ?_
 ((try refine zW ?_);(try with_reducible exact True.intro))
 (refine at_call 200 ?_;(refine zW ?_;try with_reducible exact True.intro);refine callA_of (Whole_spec ⟨N,ls,T,ff,room,acts⟩ l hl hT hg) zB ?_;((try refine zW ?_);(try with_reducible exact True.intro)))
 (try simp (maxSteps:=2000000) (disch:=omega) only [go_sem,simprocAttr,zD,zE,e])
 (refine at_x ?_;(refine zW ?_;try with_reducible exact True.intro);refine callXG_of [] (gmust_px) zU ?_)
 rintro W rfl
 ((try refine zO ?_);(try with_reducible exact True.intro))
 unfold gch
 refine leaves_rec 200 rfl Tryz.func63 rfl (by simp [Tryz.ntmps63]) rfl ?_
 (try simp (maxSteps:=2000000) only [go_sem,simprocAttr,tzvG])
 refine leaves_end ?_ ?_ ?_<;>((try refine zO ?_);(try with_reducible exact True.intro))
end Go.Proofs.GY
