/- The document's order of pieces is the program's. -/
import Derived.Test.YteebghpjgcacmaaGreatYMh
set_option linter.unusedSimpArgs false
set_option linter.unusedVariables false
namespace Go.Proofs.GY
open Go Go.Idl Go.Proofs Go.GN
def UpN (l:List Pc):Prop:=l.Pairwise (fun a b=>a.node < b.node)
theorem ins1_some {x:Pc}: ∀ {l o:List Pc},UpN l→ins1 x l=some o→o.Perm (x::l)∧UpN o
 | [],o,_,h=>by cases h;exact⟨.refl _,by simp [UpN]⟩
 | y::r,o,hu,h=>by
   unfold UpN at hu
   rw [List.pairwise_cons] at hu
   rw [ins1] at h
   split at h
   ·rename_i h1
    split at h
    ·cases h
    ·rename_i h2
     cases h3:ins1 x r with
     | none=>rw [h3] at h;cases h
     | some q=>
       rw [h3] at h
       cases h
       obtain⟨p1,p2⟩:=ins1_some hu.2 h3
       refine⟨(p1.cons y).trans (.swap x y r),?_⟩
       unfold UpN
       rw [List.pairwise_cons]
       refine⟨fun z hz=>?_,p2⟩
       rcases List.mem_cons.1 (p1.mem_iff.1 hz) with rfl | hz
       ·omega
       ·exact hu.1 z hz
   ·rename_i h1
    cases h
    refine⟨.refl _,?_⟩
    unfold UpN
    rw [List.pairwise_cons,List.pairwise_cons]
    refine⟨fun z hz=>?_,hu⟩
    rcases List.mem_cons.1 hz with rfl | hz
    ·omega
    ·have:=hu.1 z hz;omega
theorem ins1_none {x:Pc}: ∀ {l:List Pc},ins1 x l=none→ ∃y∈l,y.node=x.node
 | [],h=>by cases h
 | y::r,h=>by
   rw [ins1] at h
   split at h
   ·split at h
    ·rename_i h2;exact⟨y,by simp,h2⟩
    ·cases h3:ins1 x r with
     | none=>obtain⟨z,hz,e⟩:=ins1_none h3;exact⟨z,by simp [hz],e⟩
     | some q=>rw [h3] at h;cases h
   ·cases h
theorem insAll_some: ∀ {r out s:List Pc},UpN out→insAll r out=some s→s.Perm (r++out)∧UpN s
 | [],out,s,hu,h=>by cases h;exact⟨.refl _,hu⟩
 | x::r,out,s,hu,h=>by
   rw [insAll] at h
   cases h1:ins1 x out with
   | none=>rw [h1] at h;cases h
   | some o=>
     rw [h1] at h
     obtain⟨p1,p2⟩:=ins1_some hu h1
     obtain⟨q1,q2⟩:=insAll_some p2 h
     exact⟨q1.trans ((List.Perm.append_left r p1).trans List.perm_middle),q2⟩
theorem insAll_none: ∀ {r out:List Pc},UpN out→insAll r out=none→ ¬((r++out).map (·.node)).Nodup
 | [],out,hu,h=>by cases h
 | x::r,out,hu,h=>by
   rw [insAll] at h
   cases h1:ins1 x out with
   | none=>
     obtain⟨y,hy,e⟩:=ins1_none h1
     intro hn
     rw [List.cons_append,List.map_cons,List.nodup_cons] at hn
     exact hn.1 (List.mem_map.2 ⟨y,List.mem_append_right _ hy,e⟩)
   | some o=>
     rw [h1] at h
     obtain⟨p1,p2⟩:=ins1_some hu h1
     intro hn
     refine insAll_none p2 h ((List.Perm.nodup_iff (List.Perm.map _ ?_)).1 hn)
     exact(((List.Perm.append_left r p1).trans List.perm_middle)).symm
theorem mD_mrg (a b:List Pc):mD a b=mrg a b:=by
 unfold mD mrg
 have hu:UpN []:=by simp [UpN]
 cases h:insAll (a++b) [] with
 | some s=>
   obtain⟨p1,p2⟩:=insAll_some hu h
   rw [List.append_nil] at p1
   rw [(merge_some Pc.node).2 ⟨p1,p2⟩]
 | none=>
   have hn:=insAll_none hu h
   rw [List.append_nil] at hn
   cases h2:merge Pc.node a b with
   | none=>rfl
   | some s=>
     obtain⟨p1,p2⟩:=(merge_some Pc.node).1 h2
     refine absurd ((List.Perm.nodup_iff (List.Perm.map _ p1)).1 ?_) hn
     rw [List.Nodup,List.pairwise_map]
     exact p2.imp fun h=>by omega
end Go.Proofs.GY
