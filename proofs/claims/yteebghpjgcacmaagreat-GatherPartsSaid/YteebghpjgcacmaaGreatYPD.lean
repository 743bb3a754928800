/- Pieces with lists of their own. -/
import Derived.Test.YteebghpjgcacmaaGreatYPC
import Derived.Test.YteebghpjgcacmaaGreatIdGr
set_option linter.unusedSimpArgs false
set_option linter.unusedVariables false
namespace Go.Proofs.GY
open Go Go.Idl Go.Proofs
set_option maxHeartbeats 20000000
set_option maxRecDepth 100000
theorem CloneI_spec (l:List Int) (hn:l.length≤1000000):Pure Tryz.prog 87 [lI l] (lI l):=by
 cases l with
 | nil=>
   refine pcall0 200 (fn:=Tryz.f87) Tryz.func87 rfl (by simp [Tryz.ntmps87]) zB zB fun hs=>?_
   (try simp only [go_sem,simprocAttr,pr,List.map_nil])
   refine irun_eqnil (sz:=1) (rows:= []) rfl (by kernel_rfl) (by decide) fun b hb=>vc_sound _ 200 _ _ ?_
   cases b<;>((try refine zW ?_);(try with_reducible exact True.intro))
 | cons a r=>
   have e:pr eI (a::r)=eI a::pr eI r:=rfl
   rw [List.length_cons] at hn
   refine pcall0 200 (fn:=Tryz.f87) Tryz.func87 rfl (by simp [Tryz.ntmps87]) zB zB fun hs=>?_
   (try simp (disch:=omega) only [go_sem,simprocAttr,zD,zE,e])
theorem CloneM_spec (l:List (Int × Int)) (hn:l.length≤1000000):Pure Tryz.prog 103 [lII l] (lII l):=by
 cases l with
 | nil=>
   refine pcall0 200 (fn:=Tryz.f103) Tryz.func103 rfl (by simp [Tryz.ntmps103]) zB zB fun hs=>?_
   (try simp only [go_sem,simprocAttr,pr,List.map_nil])
   refine irun_eqnil (sz:=2) (rows:= []) rfl (by kernel_rfl) (by decide) fun b hb=>vc_sound _ 200 _ _ ?_
   cases b<;>((try refine zW ?_);(try with_reducible exact True.intro))
 | cons a r=>
   have e:pr eII (a::r)=eII a::pr eII r:=rfl
   rw [List.length_cons] at hn
   refine pcall0 200 (fn:=Tryz.f103) Tryz.func103 rfl (by simp [Tryz.ntmps103]) zB zB fun hs=>?_
   (try simp (disch:=omega) only [go_sem,simprocAttr,zD,zE,e])
abbrev cM (l:List (List (Int × Int))):IBlk:= .arr 1 0 [[lMs l]]
abbrev cL (l:List (List Int)):IBlk:= .arr 1 0 [[lLs l]]
theorem own1M_spec (x:List (Int × Int)) (r:List (List (Int × Int))) (hx:x.length≤1000000) (hr:r.length≤1000000):PG Tryz.prog 115 [.ptr 0 0 0 0] [cM (x::r)] 0 (lII x) [(0,cM r)]:=by
 refine pg_of 200 (fn:=Tryz.f115) Tryz.func115 rfl (by simp [Tryz.ntmps115]) 1 rfl zC zC zC zC zC fun hs=>?_
 ((try refine zW ?_);(try with_reducible exact True.intro))
 (try simp (disch:=omega) only [go_sem,simprocAttr,zD,zE,eMs])
 (refine at_call 200 ?_;(refine zW ?_;try with_reducible exact True.intro);refine callA_of (CloneM_spec x hx) zB ?_;((try refine zW ?_);(try with_reducible exact True.intro)))
 (try simp (disch:=omega) only [go_sem,simprocAttr,zD,zE,eMs,Nat.add_sub_cancel,List.take_length])
theorem own1L_spec (x:List Int) (r:List (List Int)) (hx:x.length≤1000000) (hr:r.length≤1000000):PG Tryz.prog 117 [.ptr 0 0 0 0] [cL (x::r)] 0 (lI x) [(0,cL r)]:=by
 refine pg_of 200 (fn:=Tryz.f117) Tryz.func117 rfl (by simp [Tryz.ntmps117]) 1 rfl zC zC zC zC zC fun hs=>?_
 ((try refine zW ?_);(try with_reducible exact True.intro))
 (try simp (disch:=omega) only [go_sem,simprocAttr,zD,zE,eLs])
 (refine at_call 200 ?_;(refine zW ?_;try with_reducible exact True.intro);refine callA_of (CloneI_spec x hx) zB ?_;((try refine zW ?_);(try with_reducible exact True.intro)))
 (try simp (disch:=omega) only [go_sem,simprocAttr,zD,zE,eLs,Nat.add_sub_cancel,List.take_length])
theorem listsM_spec (l:List (List (Int × Int))) (hl: ∀x∈l,x.length≤1000000) (hn:l.length≤1000000):
  PG Tryz.prog 114 [sci .i64 l.length, .clo (.func 115) [] [.ptr 0 0 0 0]] [cM l] 0 (lMs l) [(0,cM [])]:=by
 refine pg_of 200 (fn:=Tryz.f114) Tryz.func114 rfl (by simp [Tryz.ntmps114]) 1 rfl zC zC zC zC zC fun hs=>?_
 ((try refine zW ?_);(try with_reducible exact True.intro))
 refine walk_own 5 1 trivial rfl (.inr rfl) ?_
 (refine walk_trim [1,5,6,7] trivial zL ?_;((try refine zW ?_);(try with_reducible exact True.intro)))
 refine walk_floop 200 200 (fun i:Nat × Nat × List (List (Int × Int))=>i.1≤l.length∧i.2.2=l.take i.1)
  (fun i=>⟨16, [(1, .clo (.func 115) [] [.ptr 0 0 0 0]),(5, .ref 1 i.2.1 0 i.2.2.length),(6,sci .i64 l.length),(7,sci .i64 i.1)], [],2, [(1, .arr 1 i.2.1 (ir eMs i.2.2)),(0,cM (l.drop i.1))]⟩) (fun i=>l.length - i.1) (0,0, []) [] ?_ ?_ ?_
 ·simp
 ·constructor<;>(try simp (disch:=omega) only [go_sem,simprocAttr,zD,zE,Int.natCast_zero])
 ·rintro⟨i,g,acc⟩ ⟨h1,h3⟩
  simp only at h1 h3
  have hal:acc.length=i:=by rw [h3];simp;omega
  ((try refine zW ?_);(try with_reducible exact True.intro))
  by_cases hl':i < l.length
  ·have e:l.drop i=l[i]::l.drop (i+1):=List.drop_eq_getElem_cons hl'
   (try simp (disch:=omega) only [go_sem,simprocAttr,zD,zE,e])
   (refine at_g 200 ?_;(refine zW ?_;try with_reducible exact True.intro);refine callG_of [0] (own1M_spec l[i] (l.drop (i+1)) (hl _ (List.getElem_mem hl')) (by rw [List.length_drop];omega)) zU ?_;((try refine zW ?_);(try with_reducible exact True.intro)))
   (try simp (disch:=omega) only [go_sem,simprocAttr,zD,zE,eMs])
   refine⟨(i+1,g+1,acc++ [l[i]]), [],⟨hl',?_⟩,?_,?_⟩
   ·simp only [h3]
    rw [List.take_succ_eq_append_getElem hl']
   ·simp only;omega
   ·constructor<;>(try simp (disch:=omega) only [go_sem,simprocAttr,zD,zE,eMs,ir_snoc,List.map_cons,List.map_nil])
  ·have e:l.drop i= []:=List.drop_eq_nil_of_le (by omega)
   rw [List.take_of_length_le (by omega)] at h3
   (try simp (disch:=omega) only [go_sem,simprocAttr,zD,zE,h3,e])
theorem listsL_spec (l:List (List Int)) (hl: ∀x∈l,x.length≤1000000) (hn:l.length≤1000000):
  PG Tryz.prog 116 [sci .i64 l.length, .clo (.func 117) [] [.ptr 0 0 0 0]] [cL l] 0 (lLs l) [(0,cL [])]:=by
 refine pg_of 200 (fn:=Tryz.f116) Tryz.func116 rfl (by simp [Tryz.ntmps116]) 1 rfl zC zC zC zC zC fun hs=>?_
 ((try refine zW ?_);(try with_reducible exact True.intro))
 refine walk_own 5 1 trivial rfl (.inr rfl) ?_
 (refine walk_trim [1,5,6,7] trivial zL ?_;((try refine zW ?_);(try with_reducible exact True.intro)))
 refine walk_floop 200 200 (fun i:Nat × Nat × List (List Int)=>i.1≤l.length∧i.2.2=l.take i.1)
  (fun i=>⟨16, [(1, .clo (.func 117) [] [.ptr 0 0 0 0]),(5, .ref 1 i.2.1 0 i.2.2.length),(6,sci .i64 l.length),(7,sci .i64 i.1)], [],2, [(1, .arr 1 i.2.1 (ir eLs i.2.2)),(0,cL (l.drop i.1))]⟩) (fun i=>l.length - i.1) (0,0, []) [] ?_ ?_ ?_
 ·simp
 ·constructor<;>(try simp (disch:=omega) only [go_sem,simprocAttr,zD,zE,Int.natCast_zero])
 ·rintro⟨i,g,acc⟩ ⟨h1,h3⟩
  simp only at h1 h3
  have hal:acc.length=i:=by rw [h3];simp;omega
  ((try refine zW ?_);(try with_reducible exact True.intro))
  by_cases hl':i < l.length
  ·have e:l.drop i=l[i]::l.drop (i+1):=List.drop_eq_getElem_cons hl'
   (try simp (disch:=omega) only [go_sem,simprocAttr,zD,zE,e])
   (refine at_g 200 ?_;(refine zW ?_;try with_reducible exact True.intro);refine callG_of [0] (own1L_spec l[i] (l.drop (i+1)) (hl _ (List.getElem_mem hl')) (by rw [List.length_drop];omega)) zU ?_;((try refine zW ?_);(try with_reducible exact True.intro)))
   (try simp (disch:=omega) only [go_sem,simprocAttr,zD,zE,eLs])
   refine⟨(i+1,g+1,acc++ [l[i]]), [],⟨hl',?_⟩,?_,?_⟩
   ·simp only [h3]
    rw [List.take_succ_eq_append_getElem hl']
   ·simp only;omega
   ·constructor<;>(try simp (disch:=omega) only [go_sem,simprocAttr,zD,zE,eLs,ir_snoc,List.map_cons,List.map_nil])
  ·have e:l.drop i= []:=List.drop_eq_nil_of_le (by omega)
   rw [List.take_of_length_le (by omega)] at h3
   (try simp (disch:=omega) only [go_sem,simprocAttr,zD,zE,h3,e])
theorem ownM_spec (l:List (List (Int × Int))) (hl: ∀x∈l,x.length≤1000000) (hn:l.length≤1000000):Pure Tryz.prog 88 [lMs l] (lMs l):=by
 refine pcall0 200 (fn:=Tryz.f88) Tryz.func88 rfl (by simp [Tryz.ntmps88]) zB zB fun hs=>?_
 ((try refine zW ?_);(try with_reducible exact True.intro))
 (refine at_g 200 ?_;(refine zW ?_;try with_reducible exact True.intro);refine callG_of [0] (listsM_spec l hl hn) zU ?_;((try refine zW ?_);(try with_reducible exact True.intro)))
theorem ownL_spec (l:List (List Int)) (hl: ∀x∈l,x.length≤1000000) (hn:l.length≤1000000):Pure Tryz.prog 89 [lLs l] (lLs l):=by
 refine pcall0 200 (fn:=Tryz.f89) Tryz.func89 rfl (by simp [Tryz.ntmps89]) zB zB fun hs=>?_
 ((try refine zW ?_);(try with_reducible exact True.intro))
 (refine at_g 200 ?_;(refine zW ?_;try with_reducible exact True.intro);refine callG_of [0] (listsL_spec l hl hn) zU ?_;((try refine zW ?_);(try with_reducible exact True.intro)))
structure gPc (p:Pc):Prop where
 sent:p.sent.length≤1000000
 inn:p.inn.length≤1000000
 out:p.out.length≤1000000
 inns: ∀x∈p.inn,x.length≤1000000
 outs: ∀x∈p.out,x.length≤1000000
theorem gPc_cut (p:Pc):gPc (cutPc p):=by
 have key: ∀ {α:Type} (l:List (List α)),∀x∈(l.take 7).map (·.take 20),x.length≤1000000:=by
  intro α l x hx
  obtain⟨y,_,rfl⟩:=List.mem_map.1 hx
  simp only [List.length_take];omega
 refine⟨?_,?_,?_,key _,key _⟩<;>simp only [cutPc,List.length_map,List.length_take]<;>omega
theorem Own_spec (p:Pc) (h:gPc p):Pure Tryz.prog 46 [lPc p] (lPc p):=by
 obtain⟨h1,h2,h3,h4,h5⟩:=h
 refine pcall0 200 (fn:=Tryz.f46) Tryz.func46 rfl (by simp [Tryz.ntmps46]) zB zB fun hs=>?_
 ((try refine zW ?_);(try with_reducible exact True.intro))
 (refine walk_trim [1,2,68] trivial zL ?_;(refine zW ?_;try with_reducible exact True.intro);refine irun_walk (id:=1) (n:=200) [none,none,none,none,none,none,none,none,some [0,1,2,3,4,5,9,10,12,13],none,none,some [0,1,2,3,4,5,12,13],none,none,some [0,1,2,3,4,5],none,some []] mixed (by kernel_rfl) ?_)
 ((try refine zW ?_);(try with_reducible exact True.intro))
 (refine at_dcall ?_;(refine zW ?_;try with_reducible exact True.intro);refine callA_of (CloneI_spec _ h1) zB ?_;((try refine zW ?_);(try with_reducible exact True.intro)))
 ((try refine zW ?_);(try with_reducible exact True.intro))
 (refine at_dcall ?_;(refine zW ?_;try with_reducible exact True.intro);refine callA_of (ownM_spec _ h4 h2) zB ?_;((try refine zW ?_);(try with_reducible exact True.intro)))
 ((try refine zW ?_);(try with_reducible exact True.intro))
 (refine at_dcall ?_;(refine zW ?_;try with_reducible exact True.intro);refine callA_of (ownL_spec _ h5 h3) zB ?_;((try refine zW ?_);(try with_reducible exact True.intro)))
 ((try refine zO ?_);(try with_reducible exact True.intro))
theorem told_spec (l:List Pc) (hl: ∀p∈l,gPc p) (hn:l.length≤1000):Pure Tryz.prog 45 [lPs l, .p (.sc (.func (.func 46) #[] #[]))] (lPs l):=by
 refine pcall0 200 (fn:=Tryz.f45) Tryz.func45 rfl (by simp [Tryz.ntmps45]) zB zB fun hs=>?_
 ((try refine zW ?_);(try with_reducible exact True.intro))
 refine walk_own 5 6 trivial rfl (.inr rfl) ?_
 (refine walk_trim [1,5,8,9,10] trivial zL ?_;((try refine zW ?_);(try with_reducible exact True.intro)))
 refine walk_floop 200 200 (fun i:Nat × Nat × List Pc=>i.1≤l.length∧i.2.2=l.take i.1)
  (fun i=>⟨22, [(1, .p (.sc (.func (.func 46) #[] #[]))),(5, .ref 0 i.2.1 0 i.2.2.length),(8,lPs l),(9,sci .i64 l.length),(10,sci .i64 i.1)], [],1, [(0, .arr 6 i.2.1 (ir ePc i.2.2))]⟩) (fun i=>l.length - i.1) (0,0, []) [] ?_ ?_ ?_
 ·simp
 ·constructor<;>(try simp (disch:=omega) only [go_sem,simprocAttr,zD,zE,Int.natCast_zero])
 ·rintro⟨i,g,acc⟩ ⟨h1,h3⟩
  simp only at h1 h3
  have hal:acc.length=i:=by rw [h3];simp;omega
  ((try refine zW ?_);(try with_reducible exact True.intro))
  by_cases hl':i < l.length
  ·(try simp (disch:=omega) only [go_sem,simprocAttr,zD,zE,ePc])
   (refine at_call 200 ?_;(refine zW ?_;try with_reducible exact True.intro);refine callA_of (Own_spec l[i] (hl _ (List.getElem_mem hl'))) zB ?_;((try refine zW ?_);(try with_reducible exact True.intro)))
   (try simp (disch:=omega) only [go_sem,simprocAttr,zD,zE,ePc])
   refine⟨(i+1,g+1,acc++ [l[i]]), [1],⟨hl',?_⟩,?_,?_⟩
   ·simp only [h3]
    rw [List.take_succ_eq_append_getElem hl']
   ·simp only;omega
   ·constructor<;>(try simp (disch:=omega) only [go_sem,simprocAttr,zD,zE,ePc,ir_snoc,List.map_cons,List.map_nil])
  ·rw [List.take_of_length_le (by omega)] at h3
   (try simp (disch:=omega) only [go_sem,simprocAttr,zD,zE,h3])
end Go.Proofs.GY
