/- Facts that the proofs of this claim lean on. -/
import Derived.Test.YtfhhdgkhajkapaaGreatGCn
set_option linter.unusedSimpArgs false
set_option linter.unusedVariables false
/- What was sent and not got; whether something was got that was not sent. No program in sight. -/
namespace Go.GP
def allM:Nat→List Int→List (Int × Int)
 | _, []=> []
 | i,x::r=>((i:Int)+1,x)::allM (i+1) r
def qaO (l:List (Int × Int)):List Int:=l.map (·.1)
def idxM (q:Int):Nat→List (Int × Int)→Int
 | _, []=> -1
 | i,x::r=>if x.1=q then i else idxM q (i+1) r
theorem qnV {q:Int}: ∀ {l:List (Int × Int)} {i:Nat},0≤idxM q i l↔q∈qaO l
 | [],i=>by simp [idxM,qaO]
 | x::r,i=>by
   unfold idxM
   split
   ·rename_i e;simp [qaO,e]
   ·rename_i e
    rw [qnV]
    simp only [qaO,List.map_cons,List.mem_cons]
    exact⟨.inr,fun h=>h.resolve_left fun q=>e q.symm⟩
theorem qeV (x:Int): ∀(l:List Int) (i:Nat),allM i (l++ [x])=allM i l++ [(((i+l.length:Nat):Int)+1,x)]
 | [],i=>by simp [allM]
 | y::r,i=>by
   simp only [List.cons_append,allM,qeV x r (i+1),List.length_cons]
   rw [show i+1+r.length=i+(r.length+1) by omega]
theorem qjE: ∀(l:List Int) (i:Nat),(allM i l).length=l.length
 | [],_=>rfl
 | _::r,i=>by simp [allM,qjE r]
theorem qeH {m:Int × Int}: ∀ {l:List Int} {i:Nat},m∈allM i l↔(i:Int) < m.1∧m.1≤i+l.length∧l[(m.1 - i - 1).toNat]? =some m.2
 | [],i=>by simp [allM]
 | x::r,i=>by
   simp only [allM,List.mem_cons,List.length_cons]
   rw [qeH]
   by_cases h:m.1=(i:Int)+1
   ·have e:(m.1 - i - 1).toNat=0:=by omega
    rw [e,List.getElem?_cons_zero]
    constructor
    ·rintro(q | q)
     ·rw [q];exact⟨by simp only;omega,by simp only;omega,rfl⟩
     ·have:=q.1;omega
    ·rintro⟨_,_,q⟩
     left
     exact Prod.ext h (Option.some.inj q).symm
   ·by_cases h2:(i:Int)+1 < m.1
    ·have e:(m.1 - i - 1).toNat=(m.1 - ((i+1:Nat):Int) - 1).toNat+1:=by omega
     rw [e,List.getElem?_cons_succ]
     constructor
     ·rintro(q | ⟨q1,q2,q3⟩)
      ·exact absurd (by rw [q]) h
      ·exact⟨by omega,by omega,q3⟩
     ·rintro⟨q1,q2,q3⟩
      exact .inr ⟨by omega,by omega,q3⟩
    ·constructor
     ·rintro(q | ⟨q1,q2,q3⟩)
      ·exact absurd (by rw [q]) h
      ·omega
     ·rintro⟨q1,q2,q3⟩
      omega
def qbK (out:List Int) (inn:List (Int × Int)):List (Int × Int):=(allM 0 out).filter fun m=>decide (m.1 ∉ qaO inn)
def MixP (out:List Int) (inn:List (Int × Int)):Prop:= ∃m∈inn,1 < (qaO inn).count m.1∨m ∉ allM 0 out
theorem qmu (x:Int) (out:List Int) (inn:List (Int × Int)):qbK (out++ [x]) inn=if(out.length:Int)+1∈qaO inn then qbK out inn else qbK out inn++ [((out.length:Int)+1,x)]:=by
 unfold qbK
 rw [qeV,List.filter_append,Nat.zero_add]
 split
 ·rename_i h;simp [h]
 ·rename_i h;simp [h]
theorem filt_len {A:List Int} (hA:A.Nodup): ∀ {K:List Int},K.Nodup→(∀k∈K,k∈A)→(A.filter fun a=>decide (a ∉ K)).length+K.length=A.length
 | [],_,_=>by simp
 | k::K,hK,hs=>by
   rw [List.nodup_cons] at hK
   have ih:=filt_len hA hK.2 fun x hx=>hs x (List.mem_cons_of_mem _ hx)
   have hm:k∈A.filter fun a=>decide (a ∉ K):=List.mem_filter.2 ⟨hs k List.mem_cons_self,by simpa using hK.1⟩
   have hn:(A.filter fun a=>decide (a ∉ K)).Nodup:=hA.sublist List.filter_sublist
   have e:(A.filter fun a=>decide (a ∉ k::K))=(A.filter fun a=>decide (a ∉ K)).erase k:=by
    rw [hn.erase_eq_filter,List.filter_filter]
    refine List.filter_congr fun x _=>?_
    by_cases h:x=k<;>by_cases h2:x∈K<;>simp [h,h2]
   rw [e,List.length_erase_of_mem hm,List.length_cons]
   have:=List.length_pos_of_mem hm
   omega
theorem qdz: ∀(l:List Int) (i:Nat),(qaO (allM i l)).Nodup
 | [],_=>by simp [qaO,allM]
 | x::r,i=>by
   simp only [allM,qaO,List.map_cons,List.nodup_cons]
   refine⟨fun h=>?_,qdz r (i+1)⟩
   obtain⟨m,hm,e⟩:=List.mem_map.1 h
   have:=(qeH.1 hm).1
   omega
theorem qkn {out:List Int} {inn:List (Int × Int)} (hn:(qaO inn).Nodup) (hx: ¬MixP out inn):(qbK out inn).length+inn.length=out.length:=by
 have h:=filt_len (qdz out 0) hn (K:=qaO inn) fun k hk=>by
  obtain⟨m,hm,rfl⟩:=List.mem_map.1 hk
  exact List.mem_map_of_mem (Classical.byContradiction fun q=>hx ⟨m,hm, .inr q⟩)
 have e:(qaO (allM 0 out)).filter (fun a=>decide (a ∉ qaO inn))=qaO (qbK out inn):=by
  simp only [qaO,qbK,List.filter_map]
  rfl
 rw [e] at h
 simp only [qaO,List.length_map] at h
 rw [qjE] at h
 exact h
def MayP (sent:Int):Int→List (Int × Int)→Prop
 | _, []=>True
 | last,x::r=>(last < x.1∧x.1≤sent∧0≤x.2∧x.2≤3)∧MayP sent x.1 r
theorem qn6 {sent:Int}: ∀ {l:List (Int × Int)} {a b:Int},a≤b→MayP sent b l→MayP sent a l
 | [],_,_,_,_=>trivial
 | _::_,_,_,h,q=>⟨⟨by have:=q.1.1;omega,q.1.2⟩,q.2⟩
theorem qlr {p:Int × Int→Bool} {sent:Int}: ∀(l:List Int) (i:Nat) (last:Int),(∀x∈l,0≤x∧x≤3)→last≤i→(i+l.length:Int)≤sent→MayP sent last ((allM i l).filter p)
 | [],_,_,_,_,_=>trivial
 | x::r,i,last,h,h1,h2=>by
   rw [List.length_cons] at h2
   have hr:=qlr (p:=p) (sent:=sent) r (i+1) ((i:Int)+1) (fun y hy=>h y (List.mem_cons_of_mem _ hy)) (by omega) (by omega)
   have hx:=h x List.mem_cons_self
   simp only [allM,List.filter_cons]
   split
   ·exact⟨⟨by simp only;omega,by simp only;omega,hx.1,hx.2⟩,hr⟩
   ·exact qn6 (by omega) hr
theorem qn5 {out:List Int} {inn:List (Int × Int)} (h: ∀x∈out,0≤x∧x≤3):MayP out.length 0 (qbK out inn):=qlr out 0 0 h (by omega) (by omega)
end Go.GP
