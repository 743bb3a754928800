/- Facts that the proofs of this claim lean on. -/
import Derived.Test.YtiahkkkgomoifaaGreatIdPd
set_option linter.unusedSimpArgs false
set_option linter.unusedVariables false
/-
 Contracts of calls that change blocks: told once at a small heap, and used at any heap, whatever numbers its blocks bear.
-/
namespace Go.Idl
variable {P:Program}
mutual
def rnm (ρ:Nat→Nat):IV→IV
 | .p x=> .p x
 | .ref b g o l=> .ref (ρ b) g o l
 | .ptr b g r j=> .ptr (ρ b) g r j
 | .mp b=> .mp (ρ b)
 | .clo f x c=> .clo f (rnms ρ x) (rnms ρ c)
 | .agg cs=> .agg (rnms ρ cs)
 | .tup cs=> .tup (rnms ρ cs)
 | .dead=> .dead
def rnms (ρ:Nat→Nat):List IV→List IV
 | []=> []
 | x::r=>rnm ρ x::rnms ρ r
end
def rnB (ρ:Nat→Nat):IBlk→IBlk
 | .arr sz g rows=> .arr sz g (rows.map (rnms ρ))
 | .mp es=> .mp (es.map fun e=>(e.1,rnm ρ e.2))
 | .ob k vs=> .ob k (rnms ρ vs)
def rnL (ρ:Nat→Nat) (l:List (Nat × IBlk)):List (Nat × IBlk):=l.map fun p=>(ρ p.1,rnB ρ p.2)
def rnE (ρ:Nat→Nat):IEnd→IEnd
 | .ret x=> .ret (rnm ρ x)
 | .pan c=> .pan c
theorem rnms_get {ρ:Nat→Nat}: ∀ {l:List IV} {i:Nat} {y:IV},(rnms ρ l)[i]? =some y→ ∃x,l[i]? =some x∧y=rnm ρ x
 | [],i,y,h=>by simp [rnms] at h
 | x::r,0,y,h=>by simp [rnms] at h;exact⟨x,rfl,h.symm⟩
 | x::r,i+1,y,h=>by obtain⟨z,h1,h2⟩:=rnms_get (l:=r) (by simpa [rnms] using h);exact⟨z,by simpa using h1,h2⟩
theorem rnms_at {ρ:Nat→Nat}: ∀ {l:List IV} {i:Nat} {x:IV},l[i]? =some x→(rnms ρ l)[i]? =some (rnm ρ x)
 | [],i,y,h=>by simp at h
 | x::r,0,y,h=>by simp at h;subst h;simp [rnms]
 | x::r,i+1,y,h=>by simpa [rnms] using rnms_at (l:=r) (by simpa using h)
theorem rnms_length (ρ:Nat→Nat): ∀l:List IV,(rnms ρ l).length=l.length
 | []=>rfl
 | x::r=>by simp [rnms,rnms_length ρ r]
theorem rnB_sz (ρ:Nat→Nat) (b:IBlk):(rnB ρ b).sz=b.sz:=by cases b<;>rfl
theorem rnB_gen (ρ:Nat→Nat) (b:IBlk):(rnB ρ b).gen=b.gen:=by cases b<;>rfl
theorem rnB_len (ρ:Nat→Nat) (b:IBlk):(rnB ρ b).len=b.len:=by cases b<;>simp [rnB,IBlk.len]
theorem rnB_isMp (ρ:Nat→Nat) (b:IBlk):(rnB ρ b).isMp=b.isMp:=by
 cases b with
 | ob k vs=>cases k<;>rfl
 | _=>rfl
theorem rnm_congr {ρ σ:Nat→Nat} {K:Nat→Prop} (h: ∀i,K i→ρ i=σ i) (x:IV):within K x→rnm ρ x=rnm σ x:=by
 apply IV.rec (motive_1:=fun x=>within K x→rnm ρ x=rnm σ x) (motive_2:=fun l=>withins K l→rnms ρ l=rnms σ l)
 ·intro x _;rfl
 ·intro b g off len hb;simp only [rnm,h b hb]
 ·intro b g r j hb;simp only [rnm,h b hb]
 ·intro b hb;simp only [rnm,h b hb]
 ·intro fn f c i1 i2 hb;simp only [rnm,i1 hb.1,i2 hb.2]
 ·intro cs ih hb;simp only [rnm,ih hb]
 ·intro cs ih hb;simp only [rnm,ih hb]
 ·intro _;rfl
 ·intro _;rfl
 ·intro x l i1 i2 hb;simp only [rnms,i1 hb.1,i2 hb.2]
theorem rnms_congr {ρ σ:Nat→Nat} {K:Nat→Prop} (h: ∀i,K i→ρ i=σ i): ∀ {l:List IV},withins K l→rnms ρ l=rnms σ l
 | [],_=>rfl
 | x::r,hb=>by simp only [rnms,rnm_congr h x hb.1,rnms_congr h hb.2]
theorem rnB_congr {ρ σ:Nat→Nat} {K:Nat→Prop} (h: ∀i,K i→ρ i=σ i) {b:IBlk} (hb:blkIn K b):rnB ρ b=rnB σ b:=by
 cases b with
 | arr sz g rows=>simp only [rnB];congr 1;exact List.map_congr_left fun r hr=>rnms_congr h (hb r hr)
 | mp es=>simp only [rnB];congr 1;exact List.map_congr_left fun e he=>by rw [rnm_congr h _ (hb e he)]
 | ob k vs=>simp only [rnB];congr 1;exact rnms_congr h hb
theorem rnm_id (x:IV):rnm id x=x:=by
 apply IV.rec (motive_1:=fun x=>rnm id x=x) (motive_2:=fun l=>rnms id l=l)<;>simp_all [rnm,rnms]
theorem rnms_id: ∀l:List IV,rnms id l=l
 | []=>rfl
 | x::r=>by simp only [rnms,rnm_id,rnms_id r]
theorem rnB_id (b:IBlk):rnB id b=b:=by
 cases b with
 | arr sz g rows=>simp only [rnB];congr 1;exact(List.map_congr_left fun r _=>rnms_id r).trans (List.map_id' _)
 | mp es=>simp only [rnB];congr 1;exact(List.map_congr_left fun e _=>by rw [rnm_id]).trans (List.map_id' _)
 | ob k vs=>simp only [rnB];congr 1;exact rnms_id vs
structure Ren (K:Nat→Prop) (σ ρ:Nat→Nat) (M M':Mem):Prop where
 w:M'.w=M.w
 A: ∀i,K i→M.H.A (σ i)→M'.H.A (ρ i)
 G: ∀i,K i→ ∀blk',M'.H.G (ρ i)=some blk'→ ∃blk,M.H.G (σ i)=some blk∧blk'.sz=blk.sz∧blk'.gen=blk.gen∧blk'.len=blk.len∧blk'.isMp=blk.isMp
 β: ∀i,K i→M'.β (ρ i)=M.β (σ i)
 own: ∀c,M'.own c→M.own c
theorem VRel.ren {K:Nat→Prop} {σ ρ:Nat→Nat} {M M':Mem} (a:Ren K σ ρ M M') {x:IV} {v:Value} (h:VRel M x v): ∀y,x=rnm σ y→within K y→VRel M' (rnm ρ y) v:=by
 induction h with
 | p x v h=>
   intro y e hk
   cases y<;>simp only [rnm,reduceCtorEq,IV.p.injEq] at e
   subst e
   exact .p _ v (by rw [a.w];exact h.own' a.own)
 | ref b g off len v hA hv h=>
   intro y e hk
   cases y<;>simp only [rnm,reduceCtorEq,IV.ref.injEq] at e
   obtain⟨rfl,rfl,rfl,rfl⟩:=e
   refine .ref _ _ _ _ v (a.A _ hk hA) hv fun blk' hb=>?_
   obtain⟨blk,g1,g2,g3,g4,g5⟩:=a.G _ hk blk' hb
   rw [a.β _ hk,g2,g3,g4]
   exact h blk g1
 | ptr b g r j v hA hv h=>
   intro y e hk
   cases y<;>simp only [rnm,reduceCtorEq,IV.ptr.injEq] at e
   obtain⟨rfl,rfl,rfl,rfl⟩:=e
   refine .ptr _ _ _ _ v (a.A _ hk hA) hv fun blk' hb=>?_
   obtain⟨blk,g1,g2,g3,g4,g5⟩:=a.G _ hk blk' hb
   rw [a.β _ hk,g2,g3]
   exact h blk g1
 | mp b v hA hv h=>
   intro y e hk
   cases y<;>simp only [rnm,reduceCtorEq,IV.mp.injEq] at e
   subst e
   refine .mp _ v (a.A _ hk hA) hv fun blk' hb=>?_
   obtain⟨blk,g1,g2,g3,g4,g5⟩:=a.G _ hk blk' hb
   rw [a.β _ hk,g5]
   exact h blk g1
 | clo fn first cap vf vc hf hc rf rc i1 i2=>
   intro y e hk
   cases y<;>simp only [rnm,reduceCtorEq,IV.clo.injEq] at e
   obtain⟨rfl,rfl,rfl⟩:=e
   refine .clo _ _ _ vf vc (by rw [hf,rnms_length,rnms_length]) (by rw [hc,rnms_length,rnms_length]) (fun i x v hx hv=>?_) fun i x v hx hv=>?_
   ·obtain⟨z,hz,rfl⟩:=rnms_get hx
    exact i1 i _ v (rnms_at hz) hv z rfl (withins_get hk.1 hz)
   ·obtain⟨z,hz,rfl⟩:=rnms_get hx
    exact i2 i _ v (rnms_at hz) hv z rfl (withins_get hk.2 hz)
 | agg cs vs hl h1 r ih=>
   intro y e hk
   cases y<;>simp only [rnm,reduceCtorEq,IV.agg.injEq] at e
   subst e
   refine .agg _ vs (by rw [hl,rnms_length,rnms_length]) h1 fun i x v hx hv=>?_
   obtain⟨z,hz,rfl⟩:=rnms_get hx
   exact ih i _ v (rnms_at hz) hv z rfl (withins_get hk hz)
 | tup cs vs hl r ih=>
   intro y e hk
   cases y<;>simp only [rnm,reduceCtorEq,IV.tup.injEq] at e
   subst e
   refine .tup _ vs (by rw [hl,rnms_length,rnms_length]) fun i x v hx hv=>?_
   obtain⟨z,hz,rfl⟩:=rnms_get hx
   exact ih i _ v (rnms_at hz) hv z rfl (withins_get hk hz)
 | dead v=>
   intro y e hk
   cases y<;>simp only [rnm,reduceCtorEq] at e
   exact .dead v
theorem BRel.ren {K:Nat→Prop} {σ ρ:Nat→Nat} {M M':Mem} (a:Ren K σ ρ M M') {i:Nat} (hi:K i) {blk:IBlk} (h:BRel M (σ i) (rnB σ blk)) (hin:blkIn K blk):BRel M' (ρ i) (rnB ρ blk):=by
 cases blk with
 | arr sz g rows=>
   obtain⟨h1,h2,h3⟩:=h
   refine⟨fun row hrow=>?_,fun hn=>?_,fun c o n hc=>?_⟩
   ·obtain⟨r,hr,rfl⟩:=List.mem_map.1 hrow
    have:=h1 _ (List.mem_map_of_mem hr)
    rw [rnms_length] at this ⊢;exact this
   ·have:=h2 (by rw [←a.β i hi];exact hn)
    rw [List.map_eq_nil_iff] at this ⊢;exact this
   ·rw [a.β i hi] at hc
    obtain⟨cs,ty,q1,q2,q3,q4,q5⟩:=h3 c o n hc
    rw [List.length_map] at q2
    refine⟨cs,ty,by rw [a.w];exact q1,by rw [List.length_map];exact q2,q3,q4,fun k row j x hk hj=>?_⟩
    rw [List.getElem?_map] at hk
    cases hr:rows[k]? with
    | none=>rw [hr] at hk;cases hk
    | some r=>
      rw [hr] at hk
      simp only [Option.map_some,Option.some.injEq] at hk
      subst hk
      obtain⟨z,hz,rfl⟩:=rnms_get hj
      obtain⟨v,v1,v2,v3⟩:=q5 k (rnms σ r) j (rnm σ z) (by rw [List.getElem?_map,hr];rfl) (rnms_at hz)
      exact⟨v,v1,v2,v3.ren a z rfl (withins_get (hin r (List.mem_of_getElem? hr)) hz)⟩
 | mp es=>
   obtain⟨c,o,n,hc,es',clock,q1,q2,q3⟩:=h
   refine⟨c,o,n,by rw [a.β i hi];exact hc,es',clock,by rw [a.w];exact q1,by simpa using q2,fun k key x hk=>?_⟩
   rw [List.getElem?_map] at hk
   cases hr:es[k]? with
   | none=>rw [hr] at hk;cases hk
   | some e0=>
     rw [hr] at hk
     simp only [Option.map_some,Option.some.injEq,Prod.mk.injEq] at hk
     obtain⟨rfl,rfl⟩:=hk
     obtain⟨e,e1,e2,e3⟩:=q3 k e0.1 (rnm σ e0.2) (by rw [List.getElem?_map,hr];rfl)
     exact⟨e,e1,e2,e3.ren a _ rfl (hin e0 (List.mem_of_getElem? hr))⟩
 | ob k vs=>
   obtain⟨c,o,n,hc,ob,us,q1,q2,q3,q4⟩:=h
   refine⟨c,o,n,by rw [a.β i hi];exact hc,ob,us,by rw [a.w];exact q1,q2,by rw [q3,rnms_length,rnms_length],fun j x v hj hv=>?_⟩
   obtain⟨z,hz,rfl⟩:=rnms_get hj
   exact(q4 j _ v (rnms_at hz) hv).ren a z rfl (withins_get hin hz)
theorem EndRel.ren {K:Nat→Prop} {σ ρ:Nat→Nat} {M M':Mem} (a:Ren K σ ρ M M') {r:IEnd} {e:Ending} (h:EndRel M (rnE σ r) e) (hr: ∀x,r= .ret x→within K x):EndRel M' (rnE ρ r) e:=by
 cases r with
 | ret x=>obtain⟨v,h1,h2⟩:=h;exact⟨v,h1,h2.ren a x rfl (hr x rfl)⟩
 | pan c=>exact h
def enumB:Nat→List IBlk→List (Nat × IBlk)
 | _, []=> []
 | i,x::r=>(i,x)::enumB (i+1) r
theorem look_enumB: ∀(l:List IBlk) (i k:Nat),look (enumB i l) k=if i≤k then l[k - i]? else none
 | [],i,k=>by simp [enumB,look]
 | y::r,i,k=>by
   simp only [enumB,look]
   by_cases e:k=i
   ·subst e;simp
   ·rw [if_neg (fun h=>e h.symm),look_enumB r (i+1) k]
    by_cases h:i≤k
    ·rw [if_pos h,if_pos (by omega),show k - i=(k - (i+1))+1 by omega];simp
    ·rw [if_neg h,if_neg (by omega)]
theorem look_enumB0 (l:List IBlk) (k:Nat):look (enumB 0 l) k=l[k]? :=by rw [look_enumB];simp
theorem look_rnL {n:Nat} {ρ:Nat→Nat} (hinj: ∀i j,i < n→j < n→ρ i=ρ j→i=j): ∀ {W:List (Nat × IBlk)},(∀p∈W,p.1 < n)→ ∀ {i:Nat},i < n→look (rnL ρ W) (ρ i)=(look W i).map (rnB ρ)
 | [],_,i,_=>rfl
 | p::W,hW,i,hi=>by
   have ih:=look_rnL hinj (W:=W) (fun q hq=>hW q (List.mem_cons_of_mem _ hq)) hi
   have hp:=hW p (List.mem_cons_self ..)
   show look ((ρ p.1,rnB ρ p.2)::rnL ρ W) (ρ i)=_
   simp only [look]
   by_cases e:p.1=i
   ·subst e;simp
   ·rw [if_neg (fun h=>e (hinj _ _ hp hi h)),if_neg e,ih]
theorem look_rnL_none {n:Nat} {ρ:Nat→Nat} {W:List (Nat × IBlk)} (hW: ∀p∈W,p.1 < n) {b:Nat} (hb: ∀i,i < n→ρ i≠b):look (rnL ρ W) b=none:=by
 cases h:look (rnL ρ W) b with
 | none=>rfl
 | some x=>
   have:=look_mem h
   obtain⟨p,hp,e⟩:=List.mem_map.1 this
   simp only [Prod.mk.injEq] at e
   exact absurd e.1 (hb _ (hW p hp))
structure Fresh (k c:Nat) (σ:Nat→Nat):Prop where
 old: ∀i,i < k→σ i=i
 new: ∀i,k≤i→i < k+c→k≤σ i
 inj: ∀i j,i < k+c→j < k+c→σ i=σ j→i=j
structure WOk (k c:Nat) (W:List (Nat × IBlk)):Prop where
 low: ∀p∈W,p.1 < k+c∧blkIn (· < k+c) p.2
 new: ∀i,k≤i→i < k+c→keyed W i
theorem calls_rn {n:FuncId} {zs:List IV} {c:Nat} {R:List IBlk} {Ψ:IEnd→List (Nat × IBlk)→Prop} {ρ:Nat→Nat}
  (hinj: ∀i j,i < R.length+c→j < R.length+c→ρ i=ρ j→i=j) (hin: ∀blk∈R,blkIn (· < R.length) blk) (hzs:withins (· < R.length) zs)
  (hp:ICall P n zs ⟨R.length,enumB 0 R⟩ fun r _ l=> ∃σ r0 W,Fresh R.length c σ∧WOk R.length c W∧l=rnL σ W∧(∀M e,EndRel M r e→EndRel M (rnE σ r0) e)∧(∀x,r0= .ret x→within (· < R.length+c) x)∧Ψ r0 W)
  {M:Mem} (hM:MRel M) (hG: ∀i blk,R[i]? =some blk→M.H.G (ρ i)=some (rnB ρ blk)) (hF: ∀j,R.length≤j→j < R.length+c→ ¬M.H.A (ρ j))
  {vs:List Value} (hlen:vs.length=zs.length) (hv: ∀(i:Nat) (y:IV) (v:Value),zs[i]? =some y→vs[i]? =some v→VRel M (rnm ρ y) v):
  Calls P n ⟨vs⟩ M.w fun e w'=> ∃M' r0 W,M'.w=w'∧MStep M M'∧MRel M'∧M'.H=M.H.upd (rnL ρ W).reverse∧EndRel M' (rnE ρ r0) e∧WOk R.length c W∧Ψ r0 W:=by
 classical
 generalize hk:R.length=k at *
 have hRk: ∀i blk,R[i]? =some blk→i < k:=fun i blk h=>by rw [←hk];exact lt_of_get h
 have hRs: ∀i,i < k→ ∃blk,R[i]? =some blk:=fun i h=>⟨_,List.getElem?_eq_getElem (by omega)⟩
 let Mp:Mem:=⟨M.w,⟨(· < k),look (enumB 0 R),fun c=>M.H.O c∨ ∃b blk o n,(∀i,i < k→ρ i≠b)∧M.H.G b=some blk∧M.β b=some (c,o,n)⟩,fun i=>if i < k then M.β (ρ i) else none⟩
 have hGp: ∀i,Mp.H.G i=R[i]? :=fun i=>look_enumB0 R i
 have hβp: ∀i,i < k→Mp.β i=M.β (ρ i):=fun i h=>if_pos h
 have hownp: ∀c,Mp.own c→M.own c:=by
  rintro c ((h | ⟨b,blk,o,n,_,h1,h2⟩) | ⟨b,blk,o,n,h1,h2⟩)
  ·exact .inl h
  ·exact .inr ⟨b,blk,o,n,h1,h2⟩
  ·rw [hGp] at h1
   have hb:=hRk b blk h1
   rw [hβp b hb] at h2
   exact .inr ⟨ρ b,_,o,n,hG b blk h1,h2⟩
 have ren0:Ren (· < k) ρ id M Mp:=by
  refine⟨rfl,fun i hi _=>hi,fun i hi blk' hb=>?_,fun i hi=>hβp i hi,hownp⟩
  have hb:R[i]? =some blk':=by rw [←hGp];exact hb
  exact⟨_,hG i blk' hb,(rnB_sz ..).symm,(rnB_gen ..).symm,(rnB_len ..).symm,(rnB_isMp ..).symm⟩
 have relp:MRel Mp:=by
  refine⟨fun b blk h=>hRk b blk (by rw [←hGp];exact h),fun b blk h=>?_,fun b b' blk blk' c o n o' n' h h' hc hc'=>?_,fun c hc=>?_,fun b blk c o n h hc=>?_⟩
  ·have hb:R[b]? =some blk:=by rw [←hGp];exact h
   have:=BRel.ren ren0 (hRk b blk hb) (hM.blk _ _ (hG b blk hb)) (hin blk (List.mem_of_getElem? hb))
   rw [rnB_id] at this;exact this
  ·have hb:R[b]? =some blk:=by rw [←hGp];exact h
   have hb':R[b']? =some blk':=by rw [←hGp];exact h'
   have l1:=hRk b blk hb
   have l2:=hRk b' blk' hb'
   rw [hβp b l1] at hc;rw [hβp b' l2] at hc'
   exact hinj b b' (by omega) (by omega) (hM.inj _ _ _ _ c o n o' n' (hG b blk hb) (hG b' blk' hb') hc hc')
  ·rcases hc with hc | ⟨b,blk,o,n,_,h1,h2⟩
   ·exact hM.olt c hc
   ·exact hM.lt (.inr ⟨b,blk,o,n,h1,h2⟩)
  ·have hb:R[b]? =some blk:=by rw [←hGp];exact h
   have l1:=hRk b blk hb
   rw [hβp b l1] at hc
   rintro(ho | ⟨b',blk',o',n',hn,h1,h2⟩)
   ·exact hM.odis _ _ c o n (hG b blk hb) hc ho
   ·exact hn b l1 (hM.inj _ _ _ _ c o n o' n' (hG b blk hb) h1 hc h2)
 have hv1: ∀(i:Nat) (y:IV) (v:Value),zs[i]? =some y→vs[i]? =some v→VRel Mp y v:=fun i y v hy hw=>by
  have:=(hv i y v hy hw).ren ren0 y rfl (withins_get hzs hy)
  rw [rnm_id] at this;exact this
 refine Calls.mono (hp Mp vs ⟨relp,fun b h=>h,fun b=>rfl⟩ hlen hv1) fun e w' ⟨M1,nx',l',r,e1,st,hh,he,σ,r0,W,hσ,hW,hl,hr,hx,hΨ⟩=>?_
 subst e1 hl
 have he:=hr M1 e he
 have hWk: ∀p∈W,p.1 < k+c:=fun p hp=>(hW.low p hp).1
 -- the blocks, by their numbers
 have key: ∀i,i < k+c→ ∃blk,(match look (rnL ρ W) (ρ i) with | some x=>some x | none=>M.H.G (ρ i))=some (rnB ρ blk)∧M1.H.G (σ i)=some (rnB σ blk)∧blkIn (· < k+c) blk:=by
  intro i hi
  rw [look_rnL hinj hWk hi,hh.G,look_append,look_rnL hσ.inj hWk hi]
  cases hlw:look W i with
  | some blk=>exact⟨blk,rfl,rfl,(hW.low _ (look_mem hlw)).2⟩
  | none=>
    have hik:i < k:=by
     rcases Nat.lt_or_ge i k with h | h
     ·exact h
     ·obtain⟨blk,hb⟩:=hW.new i h hi
      rw [hlw] at hb;cases hb
    obtain⟨blk,hb⟩:=hRs i hik
    have hbi:=hin blk (List.mem_of_getElem? hb)
    have hbi':blkIn (· < k+c) blk:=by
     cases blk with
     | arr sz g rows=>exact fun row hrow=>withins_mono (fun b (hb:b < k)=>(by omega:b < k+c)) (hbi row hrow)
     | mp es=>exact fun e he=>within_mono (fun b (hb:b < k)=>(by omega:b < k+c)) _ (hbi e he)
     | ob k' vs=>exact withins_mono (fun b (hb:b < k)=>(by omega:b < k+c)) hbi
    refine⟨blk,by simpa using hG i blk hb,?_,hbi'⟩
    simp only [Option.map_none,hσ.old i hik,look_enumB0,hb]
    rw [rnB_congr (σ:=id) (K:=(· < k)) (fun i hi=>hσ.old i hi) hbi,rnB_id]
 let M':Mem:=⟨M1.w,M.H.upd (rnL ρ W).reverse,fun b=>if h: ∃i,i < k+c∧ρ i=b then M1.β (σ (Classical.choose h)) else M.β b⟩
 have hG': ∀b,M'.H.G b=match look (rnL ρ W) b with | some x=>some x | none=>M.H.G b:=by
  intro b
  show(M.H.upd (rnL ρ W).reverse).G b=_
  rw [upd_G,List.reverse_reverse]
  cases look (rnL ρ W) b<;>rfl
 have hA': ∀b,M'.H.A b↔M.H.A b∨ ∃blk,(b,blk)∈rnL ρ W:=by
  intro b
  show(M.H.upd (rnL ρ W).reverse).A b↔_
  rw [upd_A];simp
 have hβin: ∀i,i < k+c→M'.β (ρ i)=M1.β (σ i):=by
  intro i hi
  have hex: ∃j,j < k+c∧ρ j=ρ i:=⟨i,hi,rfl⟩
  have hc:=Classical.choose_spec hex
  show(if h: ∃j,j < k+c∧ρ j=ρ i then M1.β (σ (Classical.choose h)) else M.β (ρ i))=_
  rw [dif_pos hex,hinj _ _ hc.1 hi hc.2]
 have hβout: ∀b,(∀i,i < k+c→ρ i≠b)→M'.β b=M.β b:=fun b hb=>dif_neg fun⟨i,h1,h2⟩=>hb i h1 h2
 have hGout: ∀b,(∀i,i < k+c→ρ i≠b)→M'.H.G b=M.H.G b:=fun b hb=>by rw [hG',look_rnL_none hWk hb]
 have hGin: ∀i,i < k+c→ ∃blk,M'.H.G (ρ i)=some (rnB ρ blk)∧M1.H.G (σ i)=some (rnB σ blk)∧blkIn (· < k+c) blk:=fun i hi=>by
  obtain⟨blk,h1,h2⟩:=key i hi
  exact⟨blk,by rw [hG'];exact h1,h2⟩
 have hO':M'.H.O=M.H.O:=by
  show(M.H.upd (rnL ρ W).reverse).O=M.H.O
  generalize (rnL ρ W).reverse=V
  generalize M.H=H
  induction V generalizing H with
  | nil=>rfl
  | cons p V ih=>exact ih (H.put p.1 p.2)
 have hO1: ∀c,Mp.H.O c→M1.H.O c:=fun c h=>by rw [st.oeq];exact h
 have hor: ∀b,(∃i,i < k+c∧ρ i=b)∨ ∀i,i < k+c→ρ i≠b:=by
  intro b
  by_cases h: ∃i,i < k+c∧ρ i=b
  ·exact .inl h
  ·exact .inr fun i hi e=>h ⟨i,hi,e⟩
 have hown: ∀c,M'.own c→M1.own c:=by
  rintro c (h | ⟨b,blk,o,n,h1,h2⟩)
  ·rw [hO'] at h
   exact .inl (hO1 c (.inl h))
  ·rcases hor b with ⟨i,hi,rfl⟩ | hb
   ·obtain⟨blk0,g1,g2,_⟩:=hGin i hi
    rw [hβin i hi] at h2
    exact .inr ⟨σ i,_,o,n,g2,h2⟩
   ·rw [hGout b hb] at h1;rw [hβout b hb] at h2
    exact .inl (hO1 c (.inr ⟨b,blk,o,n,fun i hi=>hb i (by omega),h1,h2⟩))
 have s:MStep M M':=by
  refine⟨st.os,st.tape,st.output,st.size,fun c hc hno=>?_,fun b hb=>(hA' b).2 (.inl hb),fun b blk' hA hb=>?_,hO',fun c hc=>st.ofix c (.inl hc)⟩
  ·obtain⟨k1,k2⟩:=st.keep c hc fun h=>hno (hownp c h)
   exact⟨k1,fun h=>k2 (hown c h)⟩
  ·rcases hor b with ⟨i,hi,rfl⟩ | hk'
   ·have hik:i < k:=by
     rcases Nat.lt_or_ge i k with h | h
     ·exact h
     ·exact absurd hA (hF i h hi)
    obtain⟨blk0,g1,g2,_⟩:=hGin i hi
    rw [hb] at g1;cases g1
    rw [hσ.old i hik] at g2
    obtain⟨blk1,q1,q2,q3,q4,q5⟩:=st.comp i _ hik g2
    have hb1:R[i]? =some blk1:=by rw [←hGp];exact q1
    refine⟨_,hG i blk1 hb1,?_,?_,?_,fun e=>?_⟩
    ·rw [rnB_sz,rnB_sz];rw [rnB_sz] at q2;exact q2
    ·rw [rnB_isMp,rnB_isMp];rw [rnB_isMp] at q3;exact q3
    ·rw [rnB_gen,rnB_gen];rw [rnB_gen] at q4;exact q4
    ·rw [rnB_gen,rnB_gen] at e
     rw [rnB_gen] at q5
     obtain⟨f1,f2⟩:=q5 e
     rw [rnB_len] at f2
     rw [rnB_len,rnB_len]
     exact⟨by rw [hβin i hi,hσ.old i hik,f1,hβp i hik],f2⟩
   ·rw [hGout b hk'] at hb
    exact⟨blk',hb,rfl,rfl,Nat.le_refl _,fun _=>⟨hβout b hk',rfl⟩⟩
 have al:Ren (· < k+c) σ ρ M1 M':=by
  refine⟨rfl,fun i hi _=>?_,fun i hi blk' hb=>?_,hβin,hown⟩
  ·have hii:i < k+c:=hi
   rw [hA']
   obtain⟨blk,g1,_⟩:=key i hii
   cases hlw:look (rnL ρ W) (ρ i) with
   | some x=>exact .inr ⟨x,look_mem hlw⟩
   | none=>rw [hlw] at g1;exact .inl (hM.dom _ _ g1)
  ·obtain⟨blk,g1,g2,_⟩:=hGin i hi
   rw [hb] at g1;cases g1
   exact⟨_,g2,by rw [rnB_sz,rnB_sz],by rw [rnB_gen,rnB_gen],by rw [rnB_len,rnB_len],by rw [rnB_isMp,rnB_isMp]⟩
 have rel:MRel M':=by
  refine⟨fun b blk hb=>?_,fun b blk hb=>?_,fun b b' blk blk' c o n o' n' h h' c1 c2=>?_,fun c hc=>?_,fun b blk c o n h hc=>?_⟩
  ·rw [hA']
   rw [hG'] at hb
   cases hlw:look (rnL ρ W) b with
   | some x=>exact .inr ⟨x,look_mem hlw⟩
   | none=>rw [hlw] at hb;exact .inl (hM.dom _ _ hb)
  ·rcases hor b with ⟨i,hi,rfl⟩ | hk'
   ·obtain⟨blk0,g1,g2,g3⟩:=hGin i hi
    rw [hb] at g1;cases g1
    exact BRel.ren al hi (hh.rel.blk _ _ g2) g3
   ·rw [hGout b hk'] at hb
    refine BRel.step s (hβout b hk') (fun c o n hc=>?_) (hM.blk b blk hb)
    exact st.ofix c (.inr ⟨b,blk,o,n,fun i hi=>hk' i (by omega),hb,hc⟩)
  ·rcases hor b with ⟨i,hi,rfl⟩ | hk1<;>rcases hor b' with ⟨j,hj,rfl⟩ | hk2
   ·obtain⟨x,g1,g2,_⟩:=hGin i hi
    obtain⟨y,f1,f2,_⟩:=hGin j hj
    rw [hβin i hi] at c1;rw [hβin j hj] at c2
    have:=hh.rel.inj _ _ _ _ c o n o' n' g2 f2 c1 c2
    rw [hσ.inj i j hi hj this]
   ·obtain⟨x,g1,g2,_⟩:=hGin i hi
    rw [hβin i hi] at c1;rw [hGout b' hk2] at h';rw [hβout b' hk2] at c2
    exact absurd (hO1 c (.inr ⟨b',blk',o',n',fun i hi=>hk2 i (by omega),h',c2⟩)) (hh.rel.odis _ _ c o n g2 c1)
   ·obtain⟨x,g1,g2,_⟩:=hGin j hj
    rw [hβin j hj] at c2;rw [hGout b hk1] at h;rw [hβout b hk1] at c1
    exact absurd (hO1 c (.inr ⟨b,blk,o,n,fun i hi=>hk1 i (by omega),h,c1⟩)) (hh.rel.odis _ _ c o' n' g2 c2)
   ·rw [hGout b hk1] at h;rw [hβout b hk1] at c1;rw [hGout b' hk2] at h';rw [hβout b' hk2] at c2
    exact hM.inj b b' blk blk' c o n o' n' h h' c1 c2
  ·rw [hO'] at hc
   exact Nat.lt_of_lt_of_le (hM.olt c hc) st.size
  ·rw [hO']
   rcases hor b with ⟨i,hi,rfl⟩ | hk1
   ·obtain⟨x,g1,g2,_⟩:=hGin i hi
    rw [hβin i hi] at hc
    exact fun ho=>hh.rel.odis _ _ c o n g2 hc (hO1 c (.inl ho))
   ·rw [hGout b hk1] at h;rw [hβout b hk1] at hc
    exact hM.odis b blk c o n h hc
 exact⟨M',r0,W,rfl,s,rel,rfl,he.ren al hx,hW,hΨ⟩
end Go.Idl
/-
 Contracts with blocks: how they are proved on the walk, and used there.
-/
namespace Go.Idl
variable {P:Program} {h0:IH}
theorem within_bel {n:Nat} (x:IV):bel n x→within (· < n) x:=by
 apply IV.rec (motive_1:=fun x=>bel n x→within (· < n) x) (motive_2:=fun l=>bels n l→withins (· < n) l)
 ·intro x _;trivial
 ·intro b g off len h;exact h
 ·intro b g r j h;exact h
 ·intro b h;exact h
 ·intro fn f c i1 i2 h;exact⟨i1 h.1,i2 h.2⟩
 ·intro cs ih h;exact ih h
 ·intro cs ih h;exact ih h
 ·intro _;trivial
 ·intro _;trivial
 ·intro x l i1 i2 h;exact⟨i1 h.1,i2 h.2⟩
theorem withins_bels {n:Nat}: ∀ {l:List IV},bels n l→withins (· < n) l
 | [],_=>trivial
 | x::r,h=>⟨within_bel x h.1,withins_bels h.2⟩
structure PG (P:Program) (f:FuncId) (args:List IV) (R:List IBlk) (c:Nat) (x:IV) (W:List (Nat × IBlk)):Prop where
 hzs:withins (· < R.length) args
 hin: ∀blk∈R,blkIn (· < R.length) blk
 hW:WOk R.length c W
 hx:within (· < R.length+c) x
 call:ICall P f args ⟨R.length,enumB 0 R⟩ fun r _ l=> ∃σ,Fresh R.length c σ∧r= .ret (rnm σ x)∧l=rnL σ W
structure PX (P:Program) (f:FuncId) (args:List IV) (R:List IBlk) (ch:List PanicEntry) (Wp:List (Nat × IBlk)→Prop):Prop where
 hzs:withins (· < R.length) args
 hin: ∀blk∈R,blkIn (· < R.length) blk
 call:ICall P f args ⟨R.length,enumB 0 R⟩ fun r _ l=>r= .pan ch∧Wp l∧ ∀p∈l,p.1 < R.length∧blkIn (· < R.length) p.2
def ridx:List Nat→Nat→Nat→Nat
 | [],nx,i=>nx+i
 | b::_,_,0=>b
 | _::r,nx,i+1=>ridx r nx i
theorem ridx_old: ∀ {ids:List Nat} {nx i:Nat} (h:i < ids.length),ridx ids nx i=ids[i]
 | b::r,nx,0,_=>rfl
 | b::r,nx,i+1,h=>by simpa [ridx] using ridx_old (ids:=r) (nx:=nx) (by simpa using h)
theorem ridx_new: ∀ {ids:List Nat} {nx i:Nat},ids.length≤i→ridx ids nx i=nx+(i - ids.length)
 | [],nx,i,_=>by simp [ridx]
 | b::r,nx,0,h=>by simp at h
 | b::r,nx,i+1,h=>by
   have:=ridx_new (ids:=r) (nx:=nx) (i:=i) (by simpa using h)
   rw [ridx,this,List.length_cons];congr 1;omega
def seenR (G:Nat→Option IBlk) (ρ:Nat→Nat):List Nat→List IBlk→Prop
 | [], []=>True
 | b::r,blk::R=>G b=some (rnB ρ blk)∧seenR G ρ r R
 | _,_=>False
theorem seenR_len {G:Nat→Option IBlk} {ρ:Nat→Nat}: ∀ {ids:List Nat} {R:List IBlk},seenR G ρ ids R→ids.length=R.length
 | [], [],_=>rfl
 | _::_,_::_,h=>by simp [seenR_len h.2]
 | [],_::_,h=>h.elim
 | _::_, [],h=>h.elim
theorem seenR_get {G:Nat→Option IBlk} {ρ:Nat→Nat}: ∀ {ids:List Nat} {R:List IBlk},seenR G ρ ids R→ ∀(i b:Nat) (blk:IBlk),ids[i]? =some b→R[i]? =some blk→G b=some (rnB ρ blk)
 | [], [],_,i,b,blk,h,_=>by simp at h
 | _::_,_::_,h,0,b,blk,h1,h2=>by simp at h1 h2;subst h1 h2;exact h.1
 | _::_,_::_,h,i+1,b,blk,h1,h2=>seenR_get h.2 i b blk (by simpa using h1) (by simpa using h2)
 | [],_::_,h,_,_,_,_,_=>h.elim
 | _::_, [],h,_,_,_,_,_=>h.elim
def apartN:List Nat→Prop
 | []=>True
 | b::r=>nin b r∧apartN r
where nin (b:Nat):List Nat→Prop
 | []=>True
 | c::r=> ¬b=c∧nin b r
theorem nin_not {b:Nat}: ∀ {r:List Nat},apartN.nin b r→b ∉ r
 | [],_=>by simp
 | c::r,h=>by simp only [List.mem_cons,not_or];exact⟨h.1,nin_not h.2⟩
theorem apartN_inj: ∀ {ids:List Nat},apartN ids→ ∀(i j:Nat) (hi:i < ids.length) (hj:j < ids.length),ids[i]=ids[j]→i=j
 | [],_,i,j,hi,_,_=>by simp at hi
 | b::r,h,0,0,_,_,_=>rfl
 | b::r,h,0,j+1,hi,hj,e=>by exact absurd (by simp only [List.getElem_cons_zero,List.getElem_cons_succ] at e;rw [e];exact List.getElem_mem _) (nin_not h.1)
 | b::r,h,i+1,0,hi,hj,e=>by exact absurd (by simp only [List.getElem_cons_zero,List.getElem_cons_succ] at e;rw [←e];exact List.getElem_mem _) (nin_not h.1)
 | b::r,h,i+1,j+1,hi,hj,e=>by rw [apartN_inj h.2 i j (by simpa using hi) (by simpa using hj) (by simpa using e)]
structure Here (M:Mem) (ids:List Nat) (nx:Nat) (R:List IBlk) (c:Nat):Prop where
 inj: ∀i j,i < R.length+c→j < R.length+c→ridx ids nx i=ridx ids nx j→i=j
 seen: ∀i blk,R[i]? =some blk→M.H.G (ridx ids nx i)=some (rnB (ridx ids nx) blk)
 new: ∀j,R.length≤j→j < R.length+c→ ¬M.H.A (ridx ids nx j)
theorem here_of {M:Mem} (hM:MRel M) {G:Nat→Option IBlk} {ids:List Nat} {nx c:Nat} {R:List IBlk} (ha:apartN ids) (hR:seenR G (ridx ids nx) ids R)
  (hG: ∀b blk,b∈ids→G b=some blk→M.H.G b=some blk) (hF: ∀b,nx≤b→b < nx+c→ ¬M.H.A b):Here M ids nx R c:=by
 have hl:=seenR_len hR
 have hget: ∀i blk,R[i]? =some blk→M.H.G (ridx ids nx i)=some (rnB (ridx ids nx) blk):=by
  intro i blk hb
  have hi:i < ids.length:=by have:=lt_of_get hb;omega
  rw [ridx_old hi]
  exact hG _ _ (List.getElem_mem hi) (seenR_get hR i _ blk (List.getElem?_eq_getElem hi) hb)
 have hnew: ∀j,R.length≤j→j < R.length+c→ ¬M.H.A (ridx ids nx j):=by
  intro j h1 h2
  rw [ridx_new (by omega)]
  exact hF _ (by omega) (by omega)
 refine⟨fun i j hi hj e=>?_,hget,hnew⟩
 have hold: ∀i,i < R.length→M.H.A (ridx ids nx i):=fun i hi=>hM.dom _ _ (hget i _ (List.getElem?_eq_getElem hi))
 rcases Nat.lt_or_ge i R.length with h1 | h1<;>rcases Nat.lt_or_ge j R.length with h2 | h2
 ·rw [ridx_old (by omega),ridx_old (by omega)] at e
  exact apartN_inj ha i j (by omega) (by omega) e
 ·exact absurd (e ▸hold i h1) (hnew j h2 hj)
 ·exact absurd (e ▸hold j h2) (hnew i h1 hi)
 ·rw [ridx_new (by omega),ridx_new (by omega)] at e
  omega
section
variable {f:FuncId} {args:List IV} {R:List IBlk} {c:Nat} {x:IV} {W:List (Nat × IBlk)} {ch:List PanicEntry} {Wp:List (Nat × IBlk)→Prop}
theorem PG.calls (h:PG P f args R c x W) {M:Mem} (hM:MRel M) {ids:List Nat} {nx:Nat} (hh:Here M ids nx R c) {vs:List Value} (hlen:vs.length=args.length)
  (hv: ∀(i:Nat) (y:IV) (v:Value),args[i]? =some y→vs[i]? =some v→VRel M (rnm (ridx ids nx) y) v):
  Calls P f ⟨vs⟩ M.w fun e w'=> ∃M',M'.w=w'∧MStep M M'∧MRel M'∧M'.H=M.H.upd (rnL (ridx ids nx) W).reverse∧ ∃v,e= .returned v∧VRel M' (rnm (ridx ids nx) x) v:=by
 refine(calls_rn (Ψ:=fun r0 V=>r0= .ret x∧V=W) hh.inj h.hin h.hzs (h.call.mono fun r n l ⟨σ,h1,h2,h3⟩=>⟨σ, .ret x,W,h1,h.hW,h3,?_,?_,rfl,rfl⟩) hM hh.seen hh.new hlen hv).mono ?_
 ·intro M e he;rw [h2] at he;exact he
 ·intro z hz;cases hz;exact h.hx
 ·rintro e w' ⟨M',r0,V,e1,st,rel,hH,he,_,rfl,rfl⟩
  exact⟨M',e1,st,rel,hH,he⟩
theorem PX.calls (h:PX P f args R ch Wp) {M:Mem} (hM:MRel M) {ids:List Nat} {nx:Nat} (hh:Here M ids nx R 0) {vs:List Value} (hlen:vs.length=args.length)
  (hv: ∀(i:Nat) (y:IV) (v:Value),args[i]? =some y→vs[i]? =some v→VRel M (rnm (ridx ids nx) y) v):
  Calls P f ⟨vs⟩ M.w fun e w'=> ∃M' W,M'.w=w'∧MStep M M'∧MRel M'∧M'.H=M.H.upd (rnL (ridx ids nx) W).reverse∧e= .panicked ch∧Wp W∧ ∀p∈W,p.1 < R.length:=by
 refine(calls_rn (c:=0) (Ψ:=fun r0 V=>r0= .pan ch∧Wp V) hh.inj h.hin h.hzs (h.call.mono fun r n l ⟨h1,h2,h3⟩=>⟨id, .pan ch,l,⟨fun i _=>rfl,fun i a b=>a,fun i j _ _ e=>e⟩,⟨h3,fun i a b=>absurd b (by omega)⟩,?_,?_,?_,rfl,h2⟩) hM hh.seen hh.new hlen hv).mono ?_
 ·exact((List.map_congr_left fun p _=>by rw [rnB_id];rfl).trans (List.map_id' _)).symm
 ·intro M e he;rw [h1] at he;exact he
 ·intro z hz;cases hz
 ·rintro e w' ⟨M',r0,V,e1,st,rel,hH,he,hV,rfl,hW⟩
  exact⟨M',V,e1,st,rel,hH,he,hW,fun p hp=>(hV.low p hp).1⟩
theorem rnL_keys {ρ:Nat→Nat} {W:List (Nat × IBlk)} {p:Nat × IBlk} (h:p∈rnL ρ W): ∃q∈W,p.1=ρ q.1:=by
 obtain⟨q,hq,e⟩:=List.mem_map.1 h
 exact⟨q,hq,by rw [←e]⟩
theorem hrel_upd {nx m nx':_} {M M':Mem} (hM:HRel nx m M) (rel:MRel M') (hnx:nx≤nx') {V:List (Nat × IBlk)} (hH:M'.H=M.H.upd V.reverse) (hV: ∀p∈V,p.1 < nx'):HRel nx' (V++m) M':=by
 refine⟨rel,fun b hb=>?_,fun b=>?_⟩
 ·rw [hH,upd_A] at hb
  rcases hb with hb | ⟨blk,hb⟩
  ·exact Nat.lt_of_lt_of_le (hM.A b hb) hnx
  ·exact hV _ (by simpa using hb)
 ·rw [hH,upd_G,List.reverse_reverse,look_append,hM.G]
  cases look V b<;>rfl
theorem seen_mem {G:Nat→Option IBlk} {ids:List Nat} {nx:Nat} (hR:seenR G (ridx ids nx) ids R) {i:Nat} (hi:i < R.length): ∃blk,G (ridx ids nx i)=some blk∧ridx ids nx i∈ids:=by
 have hl:=seenR_len hR
 rw [ridx_old (by omega)]
 exact⟨_,seenR_get hR i _ _ (List.getElem?_eq_getElem (by omega)) (List.getElem?_eq_getElem hi),List.getElem_mem _⟩
def rnR (ρ:Nat→Nat) (ids:List Nat) (R:List IBlk):List (Nat × IBlk):=ids.zip (R.map (rnB ρ))
theorem rnR_seen {G:Nat→Option IBlk} {ρ:Nat→Nat}: ∀ {ids:List Nat} {R:List IBlk},seenR G ρ ids R→ ∀p∈rnR ρ ids R,G p.1=some p.2
 | [], [],_,p,hp=>by simp [rnR] at hp
 | b::r,blk::R,h,p,hp=>by
   simp only [rnR,List.map_cons,List.zip_cons_cons,List.mem_cons] at hp
   rcases hp with rfl | hp
   ·exact h.1
   ·exact rnR_seen h.2 p hp
 | [],_::_,h,_,_=>h.elim
 | _::_, [],h,_,_=>h.elim
theorem rnR_keys {ρ:Nat→Nat} {ids:List Nat} {R:List IBlk} (h:ids.length=R.length):(rnR ρ ids R).map (·.1)=ids:=by
 unfold rnR
 rw [List.map_fst_zip];simp [h]
theorem rnR_mem {ρ:Nat→Nat} {ids:List Nat} {R:List IBlk} (h:ids.length=R.length) {b:Nat} (hb:b∈ids): ∃blk,(b,blk)∈rnR ρ ids R:=by
 rw [←rnR_keys (ρ:=ρ) h] at hb
 obtain⟨p,hp,e⟩:=List.mem_map.1 hb
 exact⟨p.2,by rw [←e];exact hp⟩
theorem PG.loc {o:Oper} {ρo:Operand→Option IV} {g:Operand} {as:List Operand} {ts:Array TypeId} {zs:List IV} {ids:List Nat} {nx:Nat} {G:Nat→Option IBlk} (h:PG P f args R c x W)
  (ho:o.op= .call {callee:= .value g,args:=⟨as⟩,argTypes:=ts}) (hc:icallee ρo g as=some (f,zs)) (hn:fnOk P f=true) (hw:wks zs (rnms (ridx ids nx) args)) (ha:apartN ids) (hR:seenR G (ridx ids nx) ids R):
  Loc P o ρo (rnR (ridx ids nx) ids R) (List.range' nx c) (rnm (ridx ids nx) x) (rnL (ridx ids nx) W).reverse:=by
 intro nx' m M a hM hRd hF hr K Q hK
 obtain⟨vs,hrun,hlen,hv⟩:=run_pcall hr ho hc hn
 have hl:=seenR_len hR
 have hkn: ∀b blk,b∈ids→G b=some blk→M.H.G b=some blk:=by
  intro b blk hb hg
  obtain⟨blk',hm⟩:=rnR_mem (ρ:=ridx ids nx) hl hb
  have h1:=rnR_seen hR _ hm
  have h2:=hRd _ hm
  simp only at h1 h2
  rw [hg] at h1;cases h1
  rw [hM.G];exact h2
 have hh:Here M ids nx R c:=here_of hM.rel ha hR hkn fun b h1 h2 hb=>hF b (by simp [List.mem_range'_1];omega) hb
 obtain⟨e1,e2⟩:=wks_get hw
 rw [rnms_length] at e1
 unfold Oper.wp
 rw [hrun]
 refine Calls.mono (h.calls hM.rel hh (by omega) fun i y v hy hv'=>?_) fun e w' ⟨M',e1,st,rel,hH,v,he,hv⟩=>?_
 ·have hlt:=lt_of_get hy
  have hx:=List.getElem?_eq_getElem (show i < zs.length by omega)
  exact(hv i _ v hx hv').wk (e2 i _ _ hx (rnms_at hy))
 ·subst e1 he
  exact hK v M' st rel hH hv
theorem PG.fits {ids:List Nat} {nx:Nat} {G:Nat→Option IBlk} (h:PG P f args R c x W) (hR:seenR G (ridx ids nx) ids R):
  FR.fitsG {x:=rnm (ridx ids nx) x,R:=rnR (ridx ids nx) ids R,F:=List.range' nx c,W:=(rnL (ridx ids nx) W).reverse} G nx:=by
 refine⟨rnR_seen hR,fun b hb=>?_,fun p hp=>?_⟩
 ·simp [List.mem_range'_1] at hb ⊢;omega
 ·simp only [List.mem_reverse] at hp
  obtain⟨q,hq,e⟩:=rnL_keys hp
  have hl:=seenR_len hR
  rcases Nat.lt_or_ge q.1 R.length with h1 | h1
  ·obtain⟨_,_,hm⟩:=seen_mem hR h1
   rw [e]
   exact .inr (rnR_mem hl hm)
  ·have:=(h.hW.low q hq).1
   refine .inl ?_
   rw [e,ridx_new (by omega)]
   simp [List.mem_range'_1];omega
end
def callG (P:Program) (c:FuncId) (zs:List IV) (G:Nat→Option IBlk) (nx:Nat) (K:IV→Nat→List (Nat × IBlk)→List Nat→Prop):Prop:=
 ∃args R cnt x W ids,PG P c args R cnt x W∧(rnms (ridx ids nx) args=zs∧apartN ids∧seenR G (ridx ids nx) ids R)∧K (rnm (ridx ids nx) x) cnt (rnL (ridx ids nx) W) ids
theorem callG_congr {c:FuncId} {zs zs':List IV} {G:Nat→Option IBlk} {nx:Nat} {K:IV→Nat→List (Nat × IBlk)→List Nat→Prop} (h:zs=zs'):callG P c zs G nx K=callG P c zs' G nx K:=by rw [h]
attribute [congr] callG_congr
def callXG (P:Program) (c:FuncId) (zs:List IV) (G:Nat→Option IBlk) (nx:Nat) (K:List PanicEntry→List (Nat × IBlk)→Prop):Prop:=
 ∃args R ch Wp ids,PX P c args R ch Wp∧(rnms (ridx ids nx) args=zs∧apartN ids∧seenR G (ridx ids nx) ids R)∧ ∀W,Wp W→K ch (rnL (ridx ids nx) W)
theorem callXG_congr {c:FuncId} {zs zs':List IV} {G:Nat→Option IBlk} {nx:Nat} {K:List PanicEntry→List (Nat × IBlk)→Prop} (h:zs=zs'):callXG P c zs G nx K=callXG P c zs' G nx K:=by rw [h]
attribute [congr] callXG_congr
section
variable {Q:Exit→IState→Prop} {k:List It} {all:Array Oper} {r:List Oper} {dst:Option Tmp} {ty:TypeId} {pos:String} {aft:Array Edge} {N:Nat} {s:List (Nat × IV)} {d:List IDef} {nx:Nat} {l:List (Nat × IBlk)}
 {g:Option (Nat × Bool)} {f:Operand} {args:List Operand} {ts:List TypeId} {K:IState→List FP→Prop} {acc:List FP}
end
/-! ### how they are proved -/
mutual
def fzv (keep:Nat→Bool) (G:Nat→Option IBlk):IV→IV→Prop
 | .agg xs, .agg ys=>fzvs keep G xs ys
 | .tup xs, .tup ys=>fzvs keep G xs ys
 | .ref b g o l, .ref b' g' o' l'=>b=b'∧g=g'∧o=o'∧l=l'
 | .ptr b g r j, .ptr b' g' r' j'=>b=b'∧g=g'∧r=r'∧j=j'
 | .mp b, .mp b'=>b=b'
 | .dead, .dead=>True
 | .clo f xs cs, .clo f' ys ds=>f=f'∧fzvs keep G xs ys∧fzvs keep G cs ds
 | .ref b g o l,y=>keep b=false∧frz G (.ref b g o l)=some y
 | .ptr b g r j,y=>keep b=false∧frz G (.ptr b g r j)=some y
 | .p a,y=>wk (.p a) y
 | _,_=>False
def fzvs (keep:Nat→Bool) (G:Nat→Option IBlk):List IV→List IV→Prop
 | [], []=>True
 | x::xs,y::ys=>fzv keep G x y∧fzvs keep G xs ys
 | _,_=>False
end
section
variable {fn:Func} {kk:Nat} {m:List (Nat × IBlk)} {c:Nat} {x:IV} {W:List (Nat × IBlk)} {Wp:List (Nat × IBlk)→Prop} {ch ch':List PanicEntry} {N:Nat} {s:List (Nat × IV)} {d:List IDef} {nx:Nat} {l:List (Nat × IBlk)}
end
section
variable {f:FuncId} {fn:Func} {code:Code} {args:List IV} {R:List IBlk} {c:Nat} {x:IV} {W:List (Nat × IBlk)} {ch:List PanicEntry} {Wp:List (Nat × IBlk)→Prop}
/-! ### a call that answers, or panics -/
inductive Oc where
 | ok (c:Nat) (x:IV) (W:List (Nat × IBlk))
 | pan
end
/-! ### rules -/
section
variable {ρ:Nat→Nat} {keep:Nat→Bool} {G:Nat→Option IBlk}
end
attribute [go_sem] rnm rnms seenR apartN apartN.nin enumB fzv fzvs
end Go.Idl
