/- Facts that the proofs of this claim lean on. -/
import Derived.Test.YtnbhjoopcaaafaaGreatIdNl
import Derived.Test.YtnbhjoopcaaafaaGreatHP
set_option linter.unusedSimpArgs false
set_option linter.unusedVariables false
/-
 Calls in the walk whose arguments are handed on as they are: a slice that is nil is told as nil.
-/
namespace Go.Idl
variable {P:Program} {h0:IH}
section
variable {Q:Exit→IState→Prop} {k:List It} {all:Array Oper} {r:List Oper} {dst:Option Tmp} {ty:TypeId} {pos:String} {aft:Array Edge} {N:Nat} {s:List (Nat × IV)} {d:List IDef} {nx:Nat} {l:List (Nat × IBlk)}
 {g:Option (Nat × Bool)} {f:Operand} {args:List Operand} {ts:List TypeId} {K:IState→List FP→Prop} {acc:List FP}
theorem at_dcall0
  (h:onSome (icallee (ev s) f args) (fun q=>(iwant all s ⟨dst, .call {callee:= .value f,args:=⟨args⟩,argTypes:=⟨ts⟩},ty,pos,aft,g⟩=some true∧fnOk P q.1=true∧dOk N dst=true)∧
   callA P q.1 q.2 (look (l++h0.m)) True fun x R=>dvc P h0 all K r ⟨N,putS dst x s,d,nx,l⟩ (acc++ [(R, [])])) False):
  DRun P h0 all (⟨dst, .call {callee:= .value f,args:=⟨args⟩,argTypes:=⟨ts⟩},ty,pos,aft,g⟩::r) ⟨N,s,d,nx,l⟩ acc K:=by
 cases hc:icallee (ev s) f args with
 | none=>rw [hc] at h;exact h.elim
 | some q=>
   rw [hc,onSome_some] at h
   obtain⟨⟨h1,h2,h3⟩,h4⟩:=h
   obtain⟨x,R,p1,p2,p3,p4⟩:=h4 trivial
   exact walk_dcall hc p1 p3 h1 h2 h3 p2 p4
end
end Go.Idl
/- Pieces with lists of their own; messages compared by the document. -/
namespace Go.Proofs.HO
open Go Go.Idl Go.Proofs
set_option maxHeartbeats 20000000
set_option maxRecDepth 100000
theorem Msgs_spec (a b:List (Int × Int)):Pure Tryz.prog 35 [lII a,lII b] (scb (a==b)):=by
 refine pcall0 200 (fn:=Tryz.f35) Tryz.func35 rfl (by simp [Tryz.ntmps35]) zB zB fun hs=>?_
 simp only [go_sem,simprocAttr,maxLen] at hs
 obtain⟨⟨ha, -⟩,hb, -⟩:=hs
 ((try refine zW ?_);(try with_reducible exact True.intro))
 by_cases hn:a.length=b.length
 ·((try refine zO ?_);(try with_reducible exact True.intro))
  refine walk_loop 200 200 (fun i:Nat=>i≤a.length∧a.take i=b.take i) (fun i=>⟨26, [(0,lII a),(1,lII b),(5,sci .i64 i)], [],0, []⟩) (fun i=>a.length - i) 0 ?_ ?_ ?_
  ·simp
  ·constructor<;>(try simp only [go_sem,simprocAttr,Int.natCast_zero])
  ·rintro i ⟨hi,he⟩
   ((try refine zW ?_);(try with_reducible exact True.intro))
   by_cases hb:i < a.length
   ·((try refine zO ?_);(try with_reducible exact True.intro))
    (refine walk_trim [0,1,5] trivial zL ?_;(refine zW ?_;try with_reducible exact True.intro);refine irun_walk (id:=6) (n:=200) [none,none,none,none,none,none,none,none,none] mixed (by kernel_rfl) ?_)
    (try simp (disch:=omega) only [go_sem,simprocAttr,zD,zE,eII])
    by_cases hc:a[i]=b[i]
    ·have h1:(a[i].1==b[i].1)=true:=by rw [hc];exact beq_self_eq_true _
     have h2:(a[i].2==b[i].2)=true:=by rw [hc];exact beq_self_eq_true _
     (try simp (disch:=omega) only [go_sem,simprocAttr,zD,zE,h1,h2])
     refine⟨i+1,⟨hb,?_⟩,by omega,?_⟩
     ·rw [List.take_succ_eq_append_getElem hb,List.take_succ_eq_append_getElem (by omega),he,hc]
     ·constructor<;>((try refine zW ?_);(try with_reducible exact True.intro))
    ·have h1:(a[i].1==b[i].1 && a[i].2==b[i].2)=false:=by
      rw [Bool.and_eq_false_iff,beq_eq_false_iff_ne,beq_eq_false_iff_ne]
      by_cases e:a[i].1=b[i].1
      ·exact .inr fun e2=>hc (Prod.ext e e2)
      ·exact .inl e
     (try simp (disch:=omega) only [go_sem,simprocAttr,zD,zE,h1])
     symm
     rw [beq_eq_false_iff_ne]
     rintro rfl
     exact hc rfl
   ·((try refine zO ?_);(try with_reducible exact True.intro))
    obtain rfl:i=a.length:=by omega
    rw [List.take_length,hn,List.take_length] at he
    simp [he]
 ·((try refine zO ?_);(try with_reducible exact True.intro))
  symm
  rw [beq_eq_false_iff_ne]
  rintro rfl
  exact hn rfl
theorem CloneI_spec (l:List Int) (hn:l.length≤1000000):Pure Tryz.prog 98 [lI l] (lI l):=by
 cases l with
 | nil=>
   refine pcall0 200 (fn:=Tryz.f98) Tryz.func98 rfl (by simp [Tryz.ntmps98]) zB zB fun hs=>?_
   (try simp only [go_sem,simprocAttr,pr,List.map_nil])
   refine irun_eqnil (sz:=1) (rows:= []) rfl (by kernel_rfl) (by decide) fun b hb=>vc_sound _ 200 _ _ ?_
   cases b<;>((try refine zW ?_);(try with_reducible exact True.intro))
 | cons a r=>
   have e:pr eI (a::r)=eI a::pr eI r:=rfl
   rw [List.length_cons] at hn
   refine pcall0 200 (fn:=Tryz.f98) Tryz.func98 rfl (by simp [Tryz.ntmps98]) zB zB fun hs=>?_
   (try simp (disch:=omega) only [go_sem,simprocAttr,zD,zE,e])
theorem CloneM_spec (l:List (Int × Int)) (hn:l.length≤1000000):Pure Tryz.prog 119 [lII l] (lII l):=by
 cases l with
 | nil=>
   refine pcall0 200 (fn:=Tryz.f119) Tryz.func119 rfl (by simp [Tryz.ntmps119]) zB zB fun hs=>?_
   (try simp only [go_sem,simprocAttr,pr,List.map_nil])
   refine irun_eqnil (sz:=2) (rows:= []) rfl (by kernel_rfl) (by decide) fun b hb=>vc_sound _ 200 _ _ ?_
   cases b<;>((try refine zW ?_);(try with_reducible exact True.intro))
 | cons a r=>
   have e:pr eII (a::r)=eII a::pr eII r:=rfl
   rw [List.length_cons] at hn
   refine pcall0 200 (fn:=Tryz.f119) Tryz.func119 rfl (by simp [Tryz.ntmps119]) zB zB fun hs=>?_
   (try simp (disch:=omega) only [go_sem,simprocAttr,zD,zE,e])
abbrev cM (l:List (List (Int × Int))):IBlk:= .arr 1 0 [[lMs l]]
abbrev cL (l:List (List Int)):IBlk:= .arr 1 0 [[lLs l]]
theorem own1M_spec (x:List (Int × Int)) (r:List (List (Int × Int))) (hx:x.length≤1000000) (hr:r.length≤1000000):PG Tryz.prog 118 [.ptr 0 0 0 0] [cM (x::r)] 0 (lII x) [(0,cM r)]:=by
 refine pg_of 200 (fn:=Tryz.f118) Tryz.func118 rfl (by simp [Tryz.ntmps118]) 1 rfl zC zC zC zC zC fun hs=>?_
 ((try refine zW ?_);(try with_reducible exact True.intro))
 (try simp (disch:=omega) only [go_sem,simprocAttr,zD,zE,eMs])
 (refine at_call 200 ?_;(refine zW ?_;try with_reducible exact True.intro);refine callA_of (CloneM_spec x hx) zB ?_;((try refine zW ?_);(try with_reducible exact True.intro)))
 (try simp (disch:=omega) only [go_sem,simprocAttr,zD,zE,eMs,Nat.add_sub_cancel,List.take_length])
theorem own1L_spec (x:List Int) (r:List (List Int)) (hx:x.length≤1000000) (hr:r.length≤1000000):PG Tryz.prog 121 [.ptr 0 0 0 0] [cL (x::r)] 0 (lI x) [(0,cL r)]:=by
 refine pg_of 200 (fn:=Tryz.f121) Tryz.func121 rfl (by simp [Tryz.ntmps121]) 1 rfl zC zC zC zC zC fun hs=>?_
 ((try refine zW ?_);(try with_reducible exact True.intro))
 (try simp (disch:=omega) only [go_sem,simprocAttr,zD,zE,eLs])
 (refine at_call 200 ?_;(refine zW ?_;try with_reducible exact True.intro);refine callA_of (CloneI_spec x hx) zB ?_;((try refine zW ?_);(try with_reducible exact True.intro)))
 (try simp (disch:=omega) only [go_sem,simprocAttr,zD,zE,eLs,Nat.add_sub_cancel,List.take_length])
theorem listsM_spec (l:List (List (Int × Int))) (hl: ∀x∈l,x.length≤1000000) (hn:l.length≤1000000):
  PG Tryz.prog 117 [sci .i64 l.length, .clo (.func 118) [] [.ptr 0 0 0 0]] [cM l] 0 (lMs l) [(0,cM [])]:=by
 refine pg_of 200 (fn:=Tryz.f117) Tryz.func117 rfl (by simp [Tryz.ntmps117]) 1 rfl zC zC zC zC zC fun hs=>?_
 ((try refine zW ?_);(try with_reducible exact True.intro))
 refine walk_own 5 1 trivial rfl (.inr rfl) ?_
 (refine walk_trim [1,5,6,7] trivial zL ?_;((try refine zW ?_);(try with_reducible exact True.intro)))
 refine walk_floop 200 200 (fun i:Nat × Nat × List (List (Int × Int))=>i.1≤l.length∧i.2.2=l.take i.1)
  (fun i=>⟨16, [(1, .clo (.func 118) [] [.ptr 0 0 0 0]),(5, .ref 1 i.2.1 0 i.2.2.length),(6,sci .i64 l.length),(7,sci .i64 i.1)], [],2, [(1, .arr 1 i.2.1 (ir eMs i.2.2)),(0,cM (l.drop i.1))]⟩) (fun i=>l.length - i.1) (0,0, []) [] ?_ ?_ ?_
 ·simp
 ·constructor<;>(try simp (disch:=omega) only [go_sem,simprocAttr,zD,zE,Int.natCast_zero])
 ·rintro⟨i,g,acc⟩ ⟨h1,h3⟩
  simp only at h1 h3
  have hal:acc.length=i:=by rw [h3];simp;omega
  ((try refine zW ?_);(try with_reducible exact True.intro))
  by_cases hl':i < l.length
  ·have e:l.drop i=l[i]::l.drop (i+1):=List.drop_eq_getElem_cons hl'
   (try simp (disch:=omega) only [go_sem,simprocAttr,zD,zE,e])
   (refine at_g 200 ?_;(refine zW ?_;try with_reducible exact True.intro);refine callG_of [0] (own1M_spec l[i] (l.drop (i+1)) (hl _ (List.getElem_mem hl')) (by rw [List.length_drop];omega)) zU ?_;((try refine zW ?_);(try with_reducible exact True.intro)))
   (try simp (disch:=omega) only [go_sem,simprocAttr,zD,zE,eMs])
   refine⟨(i+1,g+1,acc++ [l[i]]), [],⟨hl',?_⟩,?_,?_⟩
   ·simp only [h3]
    rw [List.take_succ_eq_append_getElem hl']
   ·simp only;omega
   ·constructor<;>(try simp (disch:=omega) only [go_sem,simprocAttr,zD,zE,eMs,ir_snoc,List.map_cons,List.map_nil])
  ·have e:l.drop i= []:=List.drop_eq_nil_of_le (by omega)
   rw [List.take_of_length_le (by omega)] at h3
   (try simp (disch:=omega) only [go_sem,simprocAttr,zD,zE,h3,e])
theorem listsL_spec (l:List (List Int)) (hl: ∀x∈l,x.length≤1000000) (hn:l.length≤1000000):
  PG Tryz.prog 120 [sci .i64 l.length, .clo (.func 121) [] [.ptr 0 0 0 0]] [cL l] 0 (lLs l) [(0,cL [])]:=by
 refine pg_of 200 (fn:=Tryz.f120) Tryz.func120 rfl (by simp [Tryz.ntmps120]) 1 rfl zC zC zC zC zC fun hs=>?_
 ((try refine zW ?_);(try with_reducible exact True.intro))
 refine walk_own 5 1 trivial rfl (.inr rfl) ?_
 (refine walk_trim [1,5,6,7] trivial zL ?_;((try refine zW ?_);(try with_reducible exact True.intro)))
 refine walk_floop 200 200 (fun i:Nat × Nat × List (List Int)=>i.1≤l.length∧i.2.2=l.take i.1)
  (fun i=>⟨16, [(1, .clo (.func 121) [] [.ptr 0 0 0 0]),(5, .ref 1 i.2.1 0 i.2.2.length),(6,sci .i64 l.length),(7,sci .i64 i.1)], [],2, [(1, .arr 1 i.2.1 (ir eLs i.2.2)),(0,cL (l.drop i.1))]⟩) (fun i=>l.length - i.1) (0,0, []) [] ?_ ?_ ?_
 ·simp
 ·constructor<;>(try simp (disch:=omega) only [go_sem,simprocAttr,zD,zE,Int.natCast_zero])
 ·rintro⟨i,g,acc⟩ ⟨h1,h3⟩
  simp only at h1 h3
  have hal:acc.length=i:=by rw [h3];simp;omega
  ((try refine zW ?_);(try with_reducible exact True.intro))
  by_cases hl':i < l.length
  ·have e:l.drop i=l[i]::l.drop (i+1):=List.drop_eq_getElem_cons hl'
   (try simp (disch:=omega) only [go_sem,simprocAttr,zD,zE,e])
   (refine at_g 200 ?_;(refine zW ?_;try with_reducible exact True.intro);refine callG_of [0] (own1L_spec l[i] (l.drop (i+1)) (hl _ (List.getElem_mem hl')) (by rw [List.length_drop];omega)) zU ?_;((try refine zW ?_);(try with_reducible exact True.intro)))
   (try simp (disch:=omega) only [go_sem,simprocAttr,zD,zE,eLs])
   refine⟨(i+1,g+1,acc++ [l[i]]), [],⟨hl',?_⟩,?_,?_⟩
   ·simp only [h3]
    rw [List.take_succ_eq_append_getElem hl']
   ·simp only;omega
   ·constructor<;>(try simp (disch:=omega) only [go_sem,simprocAttr,zD,zE,eLs,ir_snoc,List.map_cons,List.map_nil])
  ·have e:l.drop i= []:=List.drop_eq_nil_of_le (by omega)
   rw [List.take_of_length_le (by omega)] at h3
   (try simp (disch:=omega) only [go_sem,simprocAttr,zD,zE,h3,e])
theorem ownM_spec (l:List (List (Int × Int))) (hl: ∀x∈l,x.length≤1000000) (hn:l.length≤1000000):Pure Tryz.prog 99 [lMs l] (lMs l):=by
 refine pcall0 200 (fn:=Tryz.f99) Tryz.func99 rfl (by simp [Tryz.ntmps99]) zB zB fun hs=>?_
 ((try refine zW ?_);(try with_reducible exact True.intro))
 (refine at_g 200 ?_;(refine zW ?_;try with_reducible exact True.intro);refine callG_of [0] (listsM_spec l hl hn) zU ?_;((try refine zW ?_);(try with_reducible exact True.intro)))
theorem ownL_spec (l:List (List Int)) (hl: ∀x∈l,x.length≤1000000) (hn:l.length≤1000000):Pure Tryz.prog 100 [lLs l] (lLs l):=by
 refine pcall0 200 (fn:=Tryz.f100) Tryz.func100 rfl (by simp [Tryz.ntmps100]) zB zB fun hs=>?_
 ((try refine zW ?_);(try with_reducible exact True.intro))
 (refine at_g 200 ?_;(refine zW ?_;try with_reducible exact True.intro);refine callG_of [0] (listsL_spec l hl hn) zU ?_;((try refine zW ?_);(try with_reducible exact True.intro)))
theorem CloneI0_spec:Pure Tryz.prog 98 [nil0] nil0:=by
 refine pcall0 200 (fn:=Tryz.f98) Tryz.func98 rfl (by simp [Tryz.ntmps98]) zB zB fun hs=>?_
 ((try refine zW ?_);(try with_reducible exact True.intro))
structure gHs (p:Hs):Prop where
 inn:p.inn.length≤1000000
 out:p.out.length≤1000000
 inns: ∀x∈p.inn,x.length≤1000000
 outs: ∀x∈p.out,x.length≤1000000
theorem gHs_cut (p:Hs):gHs (cutHs p):=by
 have key: ∀ {α:Type} (l:List (List α)),∀x∈(l.take 7).map (·.take 20),x.length≤1000000:=by
  intro α l x hx
  obtain⟨y,_,rfl⟩:=List.mem_map.1 hx
  simp only [List.length_take];omega
 refine⟨?_,?_,key _,key _⟩<;>simp only [cutHs,List.length_map,List.length_take]<;>omega
end Go.Proofs.HO
