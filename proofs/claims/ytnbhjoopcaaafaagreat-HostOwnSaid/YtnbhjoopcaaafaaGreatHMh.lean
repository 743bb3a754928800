/- Facts that the proofs of this claim lean on. -/
import Derived.Test.YtnbhjoopcaaafaaGreatHMc
import Derived.Test.YtnbhjoopcaaafaaGreatHMd
import Derived.Test.YtnbhjoopcaaafaaGreatHDa
set_option linter.unusedSimpArgs false
set_option linter.unusedVariables false
/- What a host gives stays its own: numbers, shapes. Plain. -/
namespace Go.Proofs.HO
open Go Go.Idl Go.Proofs Go.GP
theorem pfW_gfW {inn:List (List (Int × Int))} {cur:List (Nat × List Int)}:pfW inn cur=gfW (freshF inn) cur:=by
 simp only [pfW,gfW,freshF_len]
 rw [show 2+inn.length=1+inn.length+1 by omega]
def νG (o1 k1 o2 k2 a t:Nat):Nat:=if t=0 then o1 else if t < 1+a then k1+(t - 1) else if t=1+a then o2 else k2+(t - (2+a))
theorem νG_inj {o1 k1 o2 k2 a b t u:Nat} (h1:o1 < o2) (h2:o2 < k1) (h3:k1+a≤k2) (ht:t < 2+a+b) (hu:u < 2+a+b) (h:νG o1 k1 o2 k2 a t=νG o1 k1 o2 k2 a u):t=u:=by
 unfold νG at h
 split at h<;>split at h<;>(try split at h)<;>(try split at h)<;>(try split at h)<;>(try split at h)<;>omega
theorem νG_bd {o1 k1 o2 k2 a b t n:Nat} (h1:o1 < o2) (h2:o2 < k1) (h3:k1+a≤k2) (h4:k2+b≤n) (ht:t < 2+a+b):o1≤νG o1 k1 o2 k2 a t∧νG o1 k1 o2 k2 a t < n:=by
 unfold νG
 split<;>(try split)<;>(try split)<;>omega
theorem νG_gfW {o1 k1 o2 k2:Nat} {xs:List (Nat × List (Int × Int))} {cur:List (Nat × List Int)}:rnL (νG o1 k1 o2 k2 xs.length) (gfW xs cur)=(o1, .arr 1 xs.length (refsR k1 xs))::(enumB k1 (famB 2 eII xs)++(o2, .arr 1 cur.length (refsR k2 cur))::enumB k2 (famB 1 eI cur)):=by
 have h1:νG o1 k1 o2 k2 xs.length (1+xs.length)=o2:=by unfold νG;rw [if_neg (by omega),if_neg (by omega),if_pos (by omega)]
 have eL1:rnL (νG o1 k1 o2 k2 xs.length) (enumB 1 (famB 2 eII xs))=enumB k1 (famB 2 eII xs):=rnL_fam fun i hi=>by
  unfold νG;rw [if_neg (by omega),if_pos (by omega)];omega
 have eR1:rnRw (νG o1 k1 o2 k2 xs.length) (refsR 1 xs)=refsR k1 xs:=rnRw_refsR fun i hi=>by
  unfold νG;rw [if_neg (by omega),if_pos (by omega)];omega
 have eL2:rnL (νG o1 k1 o2 k2 xs.length) (enumB (1+xs.length+1) (famB 1 eI cur))=enumB k2 (famB 1 eI cur):=rnL_fam fun i hi=>by
  unfold νG;rw [if_neg (by omega),if_neg (by omega),if_neg (by omega)];omega
 have eR2:rnRw (νG o1 k1 o2 k2 xs.length) (refsR (1+xs.length+1) cur)=refsR k2 cur:=rnRw_refsR fun i hi=>by
  unfold νG;rw [if_neg (by omega),if_neg (by omega),if_neg (by omega)];omega
 have app: ∀A B:List (Nat × IBlk),rnL (νG o1 k1 o2 k2 xs.length) (A++B)=rnL (νG o1 k1 o2 k2 xs.length) A++rnL (νG o1 k1 o2 k2 xs.length) B:=fun A B=>List.map_append
 show(_,IBlk.arr 1 _ (rnRw _ _))::rnL _ (_++_)=_
 rw [eR1,app,eL1]
 show _::(_++(_,IBlk.arr 1 _ (rnRw _ _))::rnL _ _)=_
 rw [eR2,eL2,h1]
 rfl
def sh {β:Type} (xs:List (Nat × List β)):List (Nat × Nat):=xs.map fun x=>(x.1,x.2.length)
theorem refsR_sh {β:Type}: ∀ {xs ys:List (Nat × List β)} {k:Nat},sh xs=sh ys→refsR k xs=refsR k ys
 | [], [],_,_=>rfl
 | [],y::ys,_,h=>by simp [sh] at h
 | x::xs, [],_,h=>by simp [sh] at h
 | x::xs,y::ys,k,h=>by
   simp only [sh,List.map_cons,List.cons.injEq,Prod.mk.injEq] at h
   simp only [refsR]
   rw [h.1.1,h.1.2,refsR_sh (xs:=xs) (ys:=ys) (by simp only [sh];exact h.2)]
theorem sh_set {β:Type} {xs:List (Nat × List β)} {k j:Nat} {v:β} (h:k < xs.length):sh (xs.set k (xs[k].1,xs[k].2.set j v))=sh xs:=by
 simp only [sh,List.map_set,List.length_set]
 apply List.ext_getElem?
 intro i
 rw [List.getElem?_set]
 split
 ·rename_i e;subst e;simp [h]
 ·rfl
theorem cut_idem (h:Hs):cutHs (cutHs h)=cutHs h:=by
 simp only [cutHs,←List.map_take,List.take_take,Nat.min_self,List.map_map]
 congr 1<;>(apply List.map_congr_left;intro l _;simp [List.take_take])
theorem pickH_cases2 {ls:List (Int × Int)} {st:St} {h:Hs} {k:Int}:(∃e:Int,pickH ls st h k=(zHs, [],e))∨
  ∃p out sent,st.mode=1∧0≤k∧st.picks[k.toNat]? =some p∧pkGo ls h.node p.2 h.out []=some (out,sent):=by
 unfold pickH
 split
 ·exact .inl ⟨8,rfl⟩
 rename_i c1
 split
 ·exact .inl ⟨3,rfl⟩
 rename_i c2
 cases h3:st.picks[k.toNat]? with
 | none=>exact .inl ⟨3,rfl⟩
 | some p=>
   simp only
   cases h4:pkGo ls h.node p.2 h.out [] with
   | none=>exact .inl ⟨2,rfl⟩
   | some r=>exact .inr ⟨p,r.1,r.2,Decidable.of_not_not c1,by omega,rfl,h4⟩
theorem takeH_cases2 {ls:List (Int × Int)} {st:St} {h:Hs} {x:Int} {m:Int × Int}:takeH ls st h x m=(zH,1)∨
  ∃(kx i:Nat) (A B:List (List (Int × Int))) (row:List (Int × Int)) (lk:Int × Int),x=(kx:Int)∧indexL x 0 (ins h.node 0 ls)=i∧h.inn=A++row::B∧A.length=i∧ls[kx]? =some lk∧(1≤m.1∧m.1≤500)∧(0≤m.2∧m.2 < 4)∧
   tB (∃y,row[posL m.1 row]? =some y∧y.fst=m.1)=false:=by
 unfold takeH
 split
 ·exact .inl rfl
 rename_i c
 have c1: ¬indexL x 0 (ins h.node 0 ls) < 0:=fun q=>c (.inl q)
 have c2:1≤m.1∧m.1≤500:=⟨by have: ¬m.1 < 1:=fun q=>c (.inr (.inl q));omega,by have: ¬500 < m.1:=fun q=>c (.inr (.inr (.inl q)));omega⟩
 have c3:0≤m.2∧m.2 < 4:=⟨by have: ¬m.2 < 0:=fun q=>c (.inr (.inr (.inr (.inl q))));omega,by have: ¬4≤m.2:=fun q=>c (.inr (.inr (.inr (.inr q))));omega⟩
 rcases indexL_at x (ins h.node 0 ls) with e | ⟨q,e,hq,hqx⟩
 ·omega
 obtain⟨kx,hkx,hx,_⟩:=ins_mem (List.mem_of_getElem? hqx)
 have hx':x=(kx:Int):=by rw [hx,Nat.zero_add]
 rw [e,Int.toNat_natCast]
 cases h1:h.inn[q]? with
 | none=>exact .inl rfl
 | some row=>
   rw [hx',Int.toNat_natCast,List.getElem?_eq_getElem hkx]
   simp only
   cases hf:tB (∃y,row[posL m.1 row]? =some y∧y.fst=m.1) with
   | true=>exact .inl (by rw [if_pos rfl])
   | false=>
     obtain⟨lq,hl⟩:=List.getElem?_eq_some_iff.1 h1
     refine .inr ⟨kx,q,h.inn.take q,h.inn.drop (q+1),row,ls[kx],rfl,rfl,?_,by simp;omega,by rw [List.getElem?_eq_getElem hkx],c2,c3,hf⟩
     rw [←hl,←List.drop_eq_getElem_cons lq,List.take_append_drop]
end Go.Proofs.HO
/- Four families of lists, as one list of blocks. Plain. -/
namespace Go.Proofs.HO
open Go Go.Idl Go.Proofs Go.GP
def dB (b:Nat):Bool:=(decide (1000≤b) && decide (b < 5000)) || (decide (6000≤b) && decide (b < 9000))
theorem dB_iff {b:Nat}:dB b=true↔(1000≤b∧b < 5000)∨(6000≤b∧b < 9000):=by simp [dB]
theorem dks:dB 9001=false∧dB 9000=false∧dB 5010=false∧dB 5011=false∧dB 5000=false∧dB 5001=false∧dB 5002=false∧dB 100=false∧dB 101=false∧dB 0=false∧dB 1=false∧dB 2=false∧dB 3=false∧dB 4=false∧dB 5=false∧dB 9002=false:=by decide
theorem look_skip {k b:Nat} {x:IBlk} {r:List (Nat × IBlk)} (h1:dB k=false) (h2:dB b=true):Idl.look ((k,x)::r) b=Idl.look r b:=by
 rw [look_cons,if_neg]
 rintro rfl
 rw [h1] at h2
 cases h2
def kFam (xp:List (Nat × List (Int × Int))) (cp:List (Nat × List Int)) (xq:List (Nat × List (Int × Int))) (cq:List (Nat × List Int)):List (Nat × IBlk):=
 enumB 1000 (famB 2 eII xp)++(enumB 3000 (famB 1 eI cp)++(enumB 6000 (famB 2 eII xq)++enumB 8000 (famB 1 eI cq)))
theorem fam_mem {β:Type} {sz k:Nat} {e:β→List PV} {xs:List (Nat × List β)} {q:Nat × IBlk} (h:q∈enumB k (famB sz e xs)): ∃i,∃hi:i < xs.length,q=(k+i, .arr sz xs[i].1 (ir e xs[i].2)):=by
 obtain⟨i,hi,e1,e2⟩:=enumB_mem h
 rw [famB_len] at hi
 refine⟨i,hi,Prod.ext e1 ?_⟩
 rw [e2];simp [famB]
theorem fam_of {β:Type} {sz:Nat} {e:β→List PV}: ∀ {xs:List (Nat × List β)} {k i:Nat} (hi:i < xs.length),(k+i,IBlk.arr sz xs[i].1 (ir e xs[i].2))∈enumB k (famB sz e xs)
 | x::xs,k,0,_=>by simp [famB,enumB]
 | x::xs,k,i+1,hi=>by
   have:=fam_of (sz:=sz) (e:=e) (xs:=xs) (k:=k+1) (i:=i) (by simpa using hi)
   rw [show k+1+i=k+(i+1) by omega] at this
   simp only [famB,List.map_cons,enumB,List.mem_cons,List.getElem_cons_succ]
   exact .inr (by simpa [famB] using this)
section
variable {xp:List (Nat × List (Int × Int))} {cp:List (Nat × List Int)} {xq:List (Nat × List (Int × Int))} {cq:List (Nat × List Int)} {k:Nat}
theorem kF_xp (h1:xp.length≤5) (h:k < xp.length):Idl.look (kFam xp cp xq cq) (1000+k)=some (.arr 2 xp[k].1 (ir eII xp[k].2)):=look_fam h
theorem kF_cp (h1:xp.length≤5) (h2:cp.length≤5) (h:k < cp.length):Idl.look (kFam xp cp xq cq) (3000+k)=some (.arr 1 cp[k].1 (ir eI cp[k].2)):=by
 unfold kFam
 rw [look_famo (by omega),look_fam h]
theorem kF_xq (h1:xp.length≤5) (h2:cp.length≤5) (h3:xq.length≤5) (h:k < xq.length):Idl.look (kFam xp cp xq cq) (6000+k)=some (.arr 2 xq[k].1 (ir eII xq[k].2)):=by
 unfold kFam
 rw [look_famo (by omega),look_famo (by omega),look_fam h]
theorem kF_cq (h1:xp.length≤5) (h2:cp.length≤5) (h3:xq.length≤5) (h:k < cq.length):Idl.look (kFam xp cp xq cq) (8000+k)=some (.arr 1 cq[k].1 (ir eI cq[k].2)):=by
 unfold kFam
 have:=look_fam (sz:=1) (e:=eI) (k:=8000) (r:= []) h
 rw [List.append_nil] at this
 rw [look_famo (by omega),look_famo (by omega),look_famo (by omega),this]
theorem kF_cases {q:Nat × IBlk} (h:q∈kFam xp cp xq cq):(∃i,∃hi:i < xp.length,q=(1000+i, .arr 2 xp[i].1 (ir eII xp[i].2)))∨(∃i,∃hi:i < cp.length,q=(3000+i, .arr 1 cp[i].1 (ir eI cp[i].2)))∨
  (∃i,∃hi:i < xq.length,q=(6000+i, .arr 2 xq[i].1 (ir eII xq[i].2)))∨ ∃i,∃hi:i < cq.length,q=(8000+i, .arr 1 cq[i].1 (ir eI cq[i].2)):=by
 unfold kFam at h
 simp only [List.mem_append] at h
 rcases h with h | h | h | h
 ·exact .inl (fam_mem h)
 ·exact .inr (.inl (fam_mem h))
 ·exact .inr (.inr (.inl (fam_mem h)))
 ·exact .inr (.inr (.inr (fam_mem h)))
theorem kF_self (h1:xp.length≤5) (h2:cp.length≤5) (h3:xq.length≤5) {q:Nat × IBlk} (h:q∈kFam xp cp xq cq):Idl.look (kFam xp cp xq cq) q.1=some q.2:=by
 rcases kF_cases h with ⟨i,hi,rfl⟩ | ⟨i,hi,rfl⟩ | ⟨i,hi,rfl⟩ | ⟨i,hi,rfl⟩
 ·exact kF_xp h1 hi
 ·exact kF_cp h1 h2 hi
 ·exact kF_xq h1 h2 h3 hi
 ·exact kF_cq h1 h2 h3 hi
theorem kF_dom (h1:xp.length≤5) (h2:cp.length≤5) (h3:xq.length≤5) (h4:cq.length≤5) {q:Nat × IBlk} (h:q∈kFam xp cp xq cq):dB q.1=true:=by
 rw [dB_iff]
 rcases kF_cases h with ⟨i,hi,rfl⟩ | ⟨i,hi,rfl⟩ | ⟨i,hi,rfl⟩ | ⟨i,hi,rfl⟩<;>(simp only;omega)
theorem set_cases {β:Type} {xs:List (Nat × List β)} {k i:Nat} {y:Nat × List β} (hi:i < (xs.set k y).length):(i=k∧(xs.set k y)[i]=y)∨(i≠k∧ ∃h:i < xs.length,(xs.set k y)[i]=xs[i]):=by
 by_cases e:i=k
 ·subst e;exact .inl ⟨rfl,by simp⟩
 ·rw [List.length_set] at hi
  exact .inr ⟨e,hi,List.getElem_set_ne (fun q=>e q.symm) _⟩
theorem kF_setxp (h1:xp.length≤5) (h2:cp.length≤5) (h3:xq.length≤5) (h4:cq.length≤5) {y:Nat × List (Int × Int)} (hk:k < xp.length) {q:Nat × IBlk} (h:q∈kFam (xp.set k y) cp xq cq):q=(1000+k, .arr 2 y.1 (ir eII y.2))∨(q∈kFam xp cp xq cq∧q.1≠1000+k):=by
 rcases kF_cases h with ⟨i,hi,rfl⟩ | ⟨i,hi,rfl⟩ | ⟨i,hi,rfl⟩ | ⟨i,hi,rfl⟩
 ·rcases set_cases hi with ⟨rfl,e⟩ | ⟨hne,hi2,e⟩
  ·rw [e];exact .inl rfl
  ·rw [e];refine .inr ⟨?_,by simp only;omega⟩
   exact List.mem_append_left _ (fam_of hi2)
 ·exact .inr ⟨List.mem_append_right _ (List.mem_append_left _ (fam_of hi)),by simp only;omega⟩
 ·exact .inr ⟨List.mem_append_right _ (List.mem_append_right _ (List.mem_append_left _ (fam_of hi))),by simp only;omega⟩
 ·exact .inr ⟨List.mem_append_right _ (List.mem_append_right _ (List.mem_append_right _ (fam_of hi))),by simp only;omega⟩
theorem kF_setcp (h1:xp.length≤5) (h2:cp.length≤5) (h3:xq.length≤5) (h4:cq.length≤5) {y:Nat × List Int} (hk:k < cp.length) {q:Nat × IBlk} (h:q∈kFam xp (cp.set k y) xq cq):q=(3000+k, .arr 1 y.1 (ir eI y.2))∨(q∈kFam xp cp xq cq∧q.1≠3000+k):=by
 rcases kF_cases h with ⟨i,hi,rfl⟩ | ⟨i,hi,rfl⟩ | ⟨i,hi,rfl⟩ | ⟨i,hi,rfl⟩
 ·exact .inr ⟨List.mem_append_left _ (fam_of hi),by simp only;omega⟩
 ·rcases set_cases hi with ⟨rfl,e⟩ | ⟨hne,hi2,e⟩
  ·rw [e];exact .inl rfl
  ·rw [e];refine .inr ⟨?_,by simp only;omega⟩
   exact List.mem_append_right _ (List.mem_append_left _ (fam_of hi2))
 ·exact .inr ⟨List.mem_append_right _ (List.mem_append_right _ (List.mem_append_left _ (fam_of hi))),by simp only;omega⟩
 ·exact .inr ⟨List.mem_append_right _ (List.mem_append_right _ (List.mem_append_right _ (fam_of hi))),by simp only;omega⟩
theorem kF_setxq (h1:xp.length≤5) (h2:cp.length≤5) (h3:xq.length≤5) (h4:cq.length≤5) {y:Nat × List (Int × Int)} (hk:k < xq.length) {q:Nat × IBlk} (h:q∈kFam xp cp (xq.set k y) cq):q=(6000+k, .arr 2 y.1 (ir eII y.2))∨(q∈kFam xp cp xq cq∧q.1≠6000+k):=by
 rcases kF_cases h with ⟨i,hi,rfl⟩ | ⟨i,hi,rfl⟩ | ⟨i,hi,rfl⟩ | ⟨i,hi,rfl⟩
 ·exact .inr ⟨List.mem_append_left _ (fam_of hi),by simp only;omega⟩
 ·exact .inr ⟨List.mem_append_right _ (List.mem_append_left _ (fam_of hi)),by simp only;omega⟩
 ·rcases set_cases hi with ⟨rfl,e⟩ | ⟨hne,hi2,e⟩
  ·rw [e];exact .inl rfl
  ·rw [e];refine .inr ⟨?_,by simp only;omega⟩
   exact List.mem_append_right _ (List.mem_append_right _ (List.mem_append_left _ (fam_of hi2)))
 ·exact .inr ⟨List.mem_append_right _ (List.mem_append_right _ (List.mem_append_right _ (fam_of hi))),by simp only;omega⟩
theorem kF_setcq (h1:xp.length≤5) (h2:cp.length≤5) (h3:xq.length≤5) (h4:cq.length≤5) {y:Nat × List Int} (hk:k < cq.length) {q:Nat × IBlk} (h:q∈kFam xp cp xq (cq.set k y)):q=(8000+k, .arr 1 y.1 (ir eI y.2))∨(q∈kFam xp cp xq cq∧q.1≠8000+k):=by
 rcases kF_cases h with ⟨i,hi,rfl⟩ | ⟨i,hi,rfl⟩ | ⟨i,hi,rfl⟩ | ⟨i,hi,rfl⟩
 ·exact .inr ⟨List.mem_append_left _ (fam_of hi),by simp only;omega⟩
 ·exact .inr ⟨List.mem_append_right _ (List.mem_append_left _ (fam_of hi)),by simp only;omega⟩
 ·exact .inr ⟨List.mem_append_right _ (List.mem_append_right _ (List.mem_append_left _ (fam_of hi))),by simp only;omega⟩
 ·rcases set_cases hi with ⟨rfl,e⟩ | ⟨hne,hi2,e⟩
  ·rw [e];exact .inl rfl
  ·rw [e];refine .inr ⟨?_,by simp only;omega⟩
   exact List.mem_append_right _ (List.mem_append_right _ (List.mem_append_right _ (fam_of hi2)))
end
theorem fblks_mem {S:IState} {m:List (Nat × IBlk)} {ids:List Nat}: ∀ {L:List (Nat × IBlk)},(∀q∈L,Idl.look (S.l++m) q.1=some q.2)→fblksIn S m ids S.nx L
 | [],_=>trivial
 | (b,blk)::r,h=>by
   refine⟨?_, .inl rfl,fblks_mem fun q hq=>h q (by simp [hq])⟩
   rw [h (b,blk) (by simp),onSome_some]
   exact fwB_self _
end Go.Proofs.HO
