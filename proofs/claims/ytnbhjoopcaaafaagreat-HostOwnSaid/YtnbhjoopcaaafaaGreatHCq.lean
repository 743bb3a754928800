/- Facts that the proofs of this claim lean on. -/
import Derived.Test.YtnbhjoopcaaafaaGreatHCo
import Derived.Test.YtnbhjoopcaaafaaGreatIdGr
set_option linter.unusedSimpArgs false
set_option linter.unusedVariables false
/- Lists of numbers of their own, one of which is held. -/
namespace Go.Proofs.HO
open Go Go.Idl Go.Proofs
set_option maxHeartbeats 20000000
set_option maxRecDepth 100000
theorem CloneI_new (a:Int) (r:List Int) (hn:r.length≤1000000):PG Tryz.prog 98 [lI (a::r)] [] 1 (.ref 0 0 0 (r.length+1)) [(0, .arr 1 0 (ir eI (a::r)))]:=by
 have e:pr eI (a::r)=eI a::pr eI r:=rfl
 refine pg_of 200 (fn:=Tryz.f98) Tryz.func98 rfl (by simp [Tryz.ntmps98]) 0 rfl zC zC zC zC zC fun hs=>?_
 ((try refine zW ?_);(try with_reducible exact True.intro))
 (try simp (disch:=omega) only [go_sem,simprocAttr,zD,zE,e])
 refine⟨[0],⟨rfl,by simp [geAll],by simp [apartN,apartN.nin]⟩,rfl,?_⟩
 exact⟨rfl,rfl,fzRs_refl _⟩
theorem CloneI_new0:PG Tryz.prog 98 [lI []] [] 1 (.ref 0 0 0 0) [(0, .arr 1 0 [])]:=by
 refine pg_of 200 (fn:=Tryz.f98) Tryz.func98 rfl (by simp [Tryz.ntmps98]) 0 rfl zC zC zC zC zC fun hs=>?_
 (try simp only [go_sem,simprocAttr,pr,List.map_nil])
 refine irun_eqnil (sz:=1) (rows:= []) rfl (by kernel_rfl) (by decide) fun b hb=>?_
 cases b
 ·refine vc_sound _ 200 _ _ ?_
  ((try refine zW ?_);(try with_reducible exact True.intro))
  refine⟨[0],⟨rfl,by simp [geAll],by simp [apartN,apartN.nin]⟩,rfl,?_⟩
  exact⟨rfl,rfl,fzRs_refl _⟩
 ·refine vc_sound _ 6 _ _ ?_
  ((try refine zW ?_);(try with_reducible exact True.intro))
  refine walk_own 2 1 trivial rfl (.inr rfl) ?_
  refine vc_sound _ 200 _ _ ?_
  ((try refine zW ?_);(try with_reducible exact True.intro))
  refine⟨[0],⟨rfl,by simp [geAll],by simp [apartN,apartN.nin]⟩,rfl,?_⟩
  exact⟨rfl,rfl,fzRs_refl _⟩
theorem CloneI_blk (l:List Int) (hn:l.length≤1000000):PG Tryz.prog 98 [lI l] [] 1 (.ref 0 0 0 l.length) [(0, .arr 1 0 (ir eI l))]:=by
 cases l with
 | nil=>exact CloneI_new0
 | cons a r=>exact CloneI_new a r (by rw [List.length_cons] at hn;omega)
theorem own1L_blk (x:List Int) (r:List (List Int)) (hx:x.length≤1000000) (hr:r.length≤1000000):
  PG Tryz.prog 121 [.ptr 0 0 0 0] [cL (x::r)] 1 (.ref 1 0 0 x.length) [(1, .arr 1 0 (ir eI x)),(0,cL r)]:=by
 refine pg_of 200 (fn:=Tryz.f121) Tryz.func121 rfl (by simp [Tryz.ntmps121]) 1 rfl zC zC zC zC zC fun hs=>?_
 ((try refine zW ?_);(try with_reducible exact True.intro))
 (try simp (disch:=omega) only [go_sem,simprocAttr,zD,zE,eLs])
 (refine at_g 200 ?_;(refine zW ?_;try with_reducible exact True.intro);refine callG_of [] (CloneI_blk x hx) zU ?_;((try refine zW ?_);(try with_reducible exact True.intro)))
 (try simp (disch:=omega) only [go_sem,simprocAttr,zD,zE,eLs,Nat.add_sub_cancel,List.take_length])
 exact⟨[1],⟨rfl,by simp [geAll],by simp [apartN,apartN.nin]⟩,rfl,rfl,rfl,fzRs_refl _⟩
end Go.Proofs.HO
/- A piece with lists of its own, one row held. -/
namespace Go.Proofs.HO
open Go Go.Idl Go.Proofs
set_option maxHeartbeats 20000000
set_option maxRecDepth 100000
theorem rnRw_rowsAt3 {l:List (List (Int × Int))} {i0 k i:Nat}:rnRw (rsel 0 [2,3]) (rowsAt l i0 1 k i)=rowsAt l i0 3 k i:=by
 unfold rowsAt
 simp only [go_sem]
 rfl
theorem rnRw_rowsAt4 {l:List (List (Int × Int))} {i0 k i:Nat}:rnRw (ridx [] 2) (rowsAt l i0 1 k i)=rowsAt l i0 3 k i:=by
 unfold rowsAt
 simp only [go_sem]
theorem OwnIn_blk (p:Hs) (h:gHs p) (i0:Nat) (h0:i0 < p.inn.length):PG Tryz.prog 77 [toldHs p] [] 2
  (.agg [sci .i64 p.node,sci .i64 p.state,sci .i64 p.steps,nil0, .ref 0 p.inn.length 0 p.inn.length,lLs p.out])
  [(0, .arr 1 p.inn.length (rowsAt p.inn i0 1 p.inn[i0].length p.inn.length)),(1, .arr 2 0 (ir eII p.inn[i0]))]:=by
 obtain⟨h2,h3,h4,h5⟩:=h
 refine pg_of 200 (fn:=Tryz.f77) Tryz.func77 rfl (by simp [Tryz.ntmps77]) 0 rfl zC zC zC zC zC fun hs=>?_
 ((try refine zW ?_);(try with_reducible exact True.intro))
 (refine walk_trim [1,2,71] trivial zL ?_;(refine zW ?_;try with_reducible exact True.intro);refine irun_walk (id:=1) (n:=200) [none,none,none,none,none,none,none,none,some [0,1,2,3,4,5,9,10,12,13],none,none,some [0,1,2,3,4,5,12,13],none,none,some [0,1,2,3,4,5],none,some []] mixed (by kernel_rfl) ?_)
 ((try refine zW ?_);(try with_reducible exact True.intro))
 (refine at_dcall0 ?_;(refine zW ?_;try with_reducible exact True.intro);refine callA_of (CloneI0_spec) zB ?_;((try refine zW ?_);(try with_reducible exact True.intro)))
 ((try refine zW ?_);(try with_reducible exact True.intro))
 (refine at_dg ?_;(refine zW ?_;try with_reducible exact True.intro);refine callG_of [] (ownM_blk p.inn i0 h0 h4 h2) zU ?_;((try refine zW ?_);(try with_reducible exact True.intro)))
 ((try refine zW ?_);(try with_reducible exact True.intro))
 (refine at_dcall ?_;(refine zW ?_;try with_reducible exact True.intro);refine callA_of (ownL_spec _ h5 h3) zB ?_;((try refine zW ?_);(try with_reducible exact True.intro)))
 (try simp (maxSteps:=2000000) (disch:=omega) only [go_sem,simprocAttr,zD,zE,rnRw_rowsAt4])
 refine⟨[2,3],⟨rfl,by simp [geAll],by simp [apartN,apartN.nin]⟩,rfl,?_⟩
 refine⟨⟨rfl,rfl,?_⟩,?_⟩
 ·rw [rnRw_rowsAt3];exact fzRs_refl _
 ·exact⟨rfl,rfl,fzRs_refl _⟩
end Go.Proofs.HO
/- A host with lists of its own, one row held. -/
namespace Go.Proofs.HO
open Go Go.Idl Go.Proofs
set_option maxHeartbeats 20000000
set_option maxRecDepth 100000
@[go_sem] theorem toldHs_eq {h:Hs}:toldHs h= .agg [sci .i64 h.node,sci .i64 h.state,sci .i64 h.steps,nil0,lMs h.inn,lLs h.out]:=(rfl)
theorem hownIn_blk (h:Hs) (hg:gHs h) (i0:Nat) (h0:i0 < h.inn.length):PG Tryz.prog 62 [lHs h] [] 2
  (.agg [sci .i64 h.node,sci .i64 h.state,sci .i64 h.steps, .ref 0 h.inn.length 0 h.inn.length,lLs h.out])
  [(0, .arr 1 h.inn.length (rowsAt h.inn i0 1 h.inn[i0].length h.inn.length)),(1, .arr 2 0 (ir eII h.inn[i0]))]:=by
 refine pg_of 200 (fn:=Tryz.f62) Tryz.func62 rfl (by simp [Tryz.ntmps62]) 0 rfl zC zC zC zC zC fun hs=>?_
 ((try refine zW ?_);(try with_reducible exact True.intro))
 (refine at_call 200 ?_;(refine zW ?_;try with_reducible exact True.intro);refine callA_of (told_spec h) zB ?_;((try refine zW ?_);(try with_reducible exact True.intro)))
 ((try refine zW ?_);(try with_reducible exact True.intro))
 (refine at_gr 200 ?_;(refine zW ?_;try with_reducible exact True.intro);refine callG_of [] (OwnIn_blk h hg i0 h0) zU ?_;((try refine zW ?_);(try with_reducible exact True.intro)))
 (try simp (maxSteps:=2000000) (disch:=omega) only [go_sem,simprocAttr,zD,zE,rnRw_rowsAt4])
 refine⟨[2,3],⟨rfl,by simp [geAll],by simp [apartN,apartN.nin]⟩,rfl,?_⟩
 refine⟨⟨rfl,rfl,?_⟩,?_⟩
 ·rw [rnRw_rowsAt3];exact fzRs_refl _
 ·exact⟨rfl,rfl,fzRs_refl _⟩
end Go.Proofs.HO
