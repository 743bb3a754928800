/- Facts that the proofs of this claim lean on. -/
import Derived.Test.YteebghpjgcacmaaGreatGCn
set_option linter.unusedSimpArgs false
set_option linter.unusedVariables false
/- What was sent and not got; whether something was got that was not sent. No program in sight. -/
namespace Go.GP
def allM:Nat→List Int→List (Int × Int)
 | _, []=> []
 | i,x::r=>((i:Int)+1,x)::allM (i+1) r
def keysM (l:List (Int × Int)):List Int:=l.map (·.1)
def idxM (q:Int):Nat→List (Int × Int)→Int
 | _, []=> -1
 | i,x::r=>if x.1=q then i else idxM q (i+1) r
theorem idxM_mem {q:Int}: ∀ {l:List (Int × Int)} {i:Nat},0≤idxM q i l↔q∈keysM l
 | [],i=>by simp [idxM,keysM]
 | x::r,i=>by
   unfold idxM
   split
   ·rename_i e;simp [keysM,e]
   ·rename_i e
    rw [idxM_mem]
    simp only [keysM,List.map_cons,List.mem_cons]
    exact⟨.inr,fun h=>h.resolve_left fun q=>e q.symm⟩
theorem allM_snoc (x:Int): ∀(l:List Int) (i:Nat),allM i (l++ [x])=allM i l++ [(((i+l.length:Nat):Int)+1,x)]
 | [],i=>by simp [allM]
 | y::r,i=>by
   simp only [List.cons_append,allM,allM_snoc x r (i+1),List.length_cons]
   rw [show i+1+r.length=i+(r.length+1) by omega]
theorem allM_len: ∀(l:List Int) (i:Nat),(allM i l).length=l.length
 | [],_=>rfl
 | _::r,i=>by simp [allM,allM_len r]
theorem mem_allM {m:Int × Int}: ∀ {l:List Int} {i:Nat},m∈allM i l↔(i:Int) < m.1∧m.1≤i+l.length∧l[(m.1 - i - 1).toNat]? =some m.2
 | [],i=>by simp [allM]
 | x::r,i=>by
   simp only [allM,List.mem_cons,List.length_cons]
   rw [mem_allM]
   by_cases h:m.1=(i:Int)+1
   ·have e:(m.1 - i - 1).toNat=0:=by omega
    rw [e,List.getElem?_cons_zero]
    constructor
    ·rintro(q | q)
     ·rw [q];exact⟨by simp only;omega,by simp only;omega,rfl⟩
     ·have:=q.1;omega
    ·rintro⟨_,_,q⟩
     left
     exact Prod.ext h (Option.some.inj q).symm
   ·by_cases h2:(i:Int)+1 < m.1
    ·have e:(m.1 - i - 1).toNat=(m.1 - ((i+1:Nat):Int) - 1).toNat+1:=by omega
     rw [e,List.getElem?_cons_succ]
     constructor
     ·rintro(q | ⟨q1,q2,q3⟩)
      ·exact absurd (by rw [q]) h
      ·exact⟨by omega,by omega,q3⟩
     ·rintro⟨q1,q2,q3⟩
      exact .inr ⟨by omega,by omega,q3⟩
    ·constructor
     ·rintro(q | ⟨q1,q2,q3⟩)
      ·exact absurd (by rw [q]) h
      ·omega
     ·rintro⟨q1,q2,q3⟩
      omega
def restL (out:List Int) (inn:List (Int × Int)):List (Int × Int):=(allM 0 out).filter fun m=>decide (m.1 ∉ keysM inn)
def MixP (out:List Int) (inn:List (Int × Int)):Prop:= ∃m∈inn,1 < (keysM inn).count m.1∨m ∉ allM 0 out
def MixD (out:List Int) (inn:List (Int × Int)):Prop:= ∃(i:Nat) (x:Int × Int),inn[i]? =some x∧(x.1 < 1∨(out.length:Int) < x.1∨out[(x.1 - 1).toNat]? ≠some x.2∨idxM x.1 0 inn≠i)
theorem idxM_at {x:Int × Int}: ∀ {l:List (Int × Int)} {i s:Nat},(keysM l).Nodup→l[i]? =some x→idxM x.1 s l=((s+i:Nat):Int)
 | [],i,s,_,h=>by simp at h
 | y::r,0,s,_,h=>by
   rw [List.getElem?_cons_zero] at h
   cases h
   simp [idxM]
 | y::r,i+1,s,hn,h=>by
   rw [List.getElem?_cons_succ] at h
   simp only [keysM,List.map_cons,List.nodup_cons] at hn
   have hne:y.1≠x.1:=fun q=>hn.1 (q ▸List.mem_map_of_mem (List.mem_of_getElem? h))
   rw [idxM,if_neg hne,idxM_at hn.2 h,show s+1+i=s+(i+1) by omega]
theorem mix_iff {out:List Int} {inn:List (Int × Int)} (hn:(keysM inn).Nodup):MixP out inn↔MixD out inn:=by
 have hc:=List.nodup_iff_count.1 hn
 constructor
 ·rintro⟨m,hm,h⟩
  obtain⟨i,hi⟩:=List.mem_iff_getElem?.1 hm
  refine⟨i,m,hi,?_⟩
  rcases h with h | h
  ·have:=hc m.1;omega
  ·rw [mem_allM] at h
   rcases Int.lt_or_le m.1 1 with q | q
   ·exact .inl q
   ·rcases Int.lt_or_le (out.length:Int) m.1 with q2 | q2
    ·exact .inr (.inl q2)
    ·refine .inr (.inr (.inl fun e=>h ⟨by omega,by omega,?_⟩))
     rw [show(m.1 - ((0:Nat):Int) - 1).toNat=(m.1 - 1).toNat by omega];exact e
 ·rintro⟨i,x,hx,h⟩
  refine⟨x,List.mem_of_getElem? hx, .inr fun hm=>?_⟩
  obtain⟨a,b,c⟩:=mem_allM.1 hm
  rw [show(x.1 - ((0:Nat):Int) - 1).toNat=(x.1 - 1).toNat by omega] at c
  rcases h with h | h | h | h
  ·omega
  ·omega
  ·exact h c
  ·rw [idxM_at hn hx] at h
   exact h (by simp)
theorem restL_snoc (x:Int) (out:List Int) (inn:List (Int × Int)):restL (out++ [x]) inn=if(out.length:Int)+1∈keysM inn then restL out inn else restL out inn++ [((out.length:Int)+1,x)]:=by
 unfold restL
 rw [allM_snoc,List.filter_append,Nat.zero_add]
 split
 ·rename_i h;simp [h]
 ·rename_i h;simp [h]
end Go.GP
/- How many were sent and not got. No program in sight. -/
namespace Go.GP
theorem filt_len {A:List Int} (hA:A.Nodup): ∀ {K:List Int},K.Nodup→(∀k∈K,k∈A)→(A.filter fun a=>decide (a ∉ K)).length+K.length=A.length
 | [],_,_=>by simp
 | k::K,hK,hs=>by
   rw [List.nodup_cons] at hK
   have ih:=filt_len hA hK.2 fun x hx=>hs x (List.mem_cons_of_mem _ hx)
   have hm:k∈A.filter fun a=>decide (a ∉ K):=List.mem_filter.2 ⟨hs k List.mem_cons_self,by simpa using hK.1⟩
   have hn:(A.filter fun a=>decide (a ∉ K)).Nodup:=hA.sublist List.filter_sublist
   have e:(A.filter fun a=>decide (a ∉ k::K))=(A.filter fun a=>decide (a ∉ K)).erase k:=by
    rw [hn.erase_eq_filter,List.filter_filter]
    refine List.filter_congr fun x _=>?_
    by_cases h:x=k<;>by_cases h2:x∈K<;>simp [h,h2]
   rw [e,List.length_erase_of_mem hm,List.length_cons]
   have:=List.length_pos_of_mem hm
   omega
theorem keys_allM_nd: ∀(l:List Int) (i:Nat),(keysM (allM i l)).Nodup
 | [],_=>by simp [keysM,allM]
 | x::r,i=>by
   simp only [allM,keysM,List.map_cons,List.nodup_cons]
   refine⟨fun h=>?_,keys_allM_nd r (i+1)⟩
   obtain⟨m,hm,e⟩:=List.mem_map.1 h
   have:=(mem_allM.1 hm).1
   omega
theorem rest_len {out:List Int} {inn:List (Int × Int)} (hn:(keysM inn).Nodup) (hx: ¬MixP out inn):(restL out inn).length+inn.length=out.length:=by
 have h:=filt_len (keys_allM_nd out 0) hn (K:=keysM inn) fun k hk=>by
  obtain⟨m,hm,rfl⟩:=List.mem_map.1 hk
  exact List.mem_map_of_mem (Classical.byContradiction fun q=>hx ⟨m,hm, .inr q⟩)
 have e:(keysM (allM 0 out)).filter (fun a=>decide (a ∉ keysM inn))=keysM (restL out inn):=by
  simp only [keysM,restL,List.filter_map]
  rfl
 rw [e] at h
 simp only [keysM,List.length_map] at h
 rw [allM_len] at h
 exact h
theorem rest_not {out:List Int} {inn:List (Int × Int)} {m:Int × Int} (hm:m∈inn):idxM m.1 0 (restL out inn) < 0:=by
 rcases Int.lt_or_le (idxM m.1 0 (restL out inn)) 0 with q | q
 ·exact q
 ·obtain⟨x,hx,e⟩:=List.mem_map.1 (idxM_mem.1 q)
  have:=(List.mem_filter.1 hx).2
  simp only [decide_eq_true_eq] at this
  exact absurd (e ▸List.mem_map_of_mem hm) this
end Go.GP
/- Which messages may be on a link. No program in sight. -/
namespace Go.GP
def MayP (sent:Int):Int→List (Int × Int)→Prop
 | _, []=>True
 | last,x::r=>(last < x.1∧x.1≤sent∧0≤x.2∧x.2≤3)∧MayP sent x.1 r
end Go.GP
