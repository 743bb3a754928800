/- Facts that the proofs of this claim lean on. -/
import Derived.Test.YtfhhdgkhajkapaaGreatIdPd
set_option linter.unusedSimpArgs false
set_option linter.unusedVariables false
/-
 Contracts of calls that change blocks: told once at a small heap, and used at any heap, whatever numbers its blocks bear.
-/
namespace Go.Idl
variable {P:Program}
mutual
def rnm (ρ:Nat→Nat):IV→IV
 | .p x=> .p x
 | .ref b g o l=> .ref (ρ b) g o l
 | .ptr b g r j=> .ptr (ρ b) g r j
 | .mp b=> .mp (ρ b)
 | .clo f x c=> .clo f (rnms ρ x) (rnms ρ c)
 | .agg cs=> .agg (rnms ρ cs)
 | .tup cs=> .tup (rnms ρ cs)
 | .dead=> .dead
def rnms (ρ:Nat→Nat):List IV→List IV
 | []=> []
 | x::r=>rnm ρ x::rnms ρ r
end
def rnB (ρ:Nat→Nat):IBlk→IBlk
 | .arr sz g rows=> .arr sz g (rows.map (rnms ρ))
 | .mp es=> .mp (es.map fun e=>(e.1,rnm ρ e.2))
 | .ob k vs=> .ob k (rnms ρ vs)
def rnL (ρ:Nat→Nat) (l:List (Nat × IBlk)):List (Nat × IBlk):=l.map fun p=>(ρ p.1,rnB ρ p.2)
def rnE (ρ:Nat→Nat):IEnd→IEnd
 | .ret x=> .ret (rnm ρ x)
 | .pan c=> .pan c
theorem qcr {ρ:Nat→Nat}: ∀ {l:List IV} {i:Nat} {y:IV},(rnms ρ l)[i]? =some y→ ∃x,l[i]? =some x∧y=rnm ρ x
 | [],i,y,h=>by simp [rnms] at h
 | x::r,0,y,h=>by simp [rnms] at h;exact⟨x,rfl,h.symm⟩
 | x::r,i+1,y,h=>by obtain⟨z,h1,h2⟩:=qcr (l:=r) (by simpa [rnms] using h);exact⟨z,by simpa using h1,h2⟩
theorem qbD {ρ:Nat→Nat}: ∀ {l:List IV} {i:Nat} {x:IV},l[i]? =some x→(rnms ρ l)[i]? =some (rnm ρ x)
 | [],i,y,h=>by simp at h
 | x::r,0,y,h=>by simp at h;subst h;simp [rnms]
 | x::r,i+1,y,h=>by simpa [rnms] using qbD (l:=r) (by simpa using h)
theorem qaC (ρ:Nat→Nat): ∀l:List IV,(rnms ρ l).length=l.length
 | []=>rfl
 | x::r=>by simp [rnms,qaC ρ r]
theorem qek (ρ:Nat→Nat) (b:IBlk):(rnB ρ b).sz=b.sz:=by cases b<;>rfl
theorem rnB_gen (ρ:Nat→Nat) (b:IBlk):(rnB ρ b).gen=b.gen:=by cases b<;>rfl
theorem rnB_len (ρ:Nat→Nat) (b:IBlk):(rnB ρ b).len=b.len:=by cases b<;>simp [rnB,IBlk.len]
theorem qcW (ρ:Nat→Nat) (b:IBlk):(rnB ρ b).isMp=b.isMp:=by
 cases b with
 | ob k vs=>cases k<;>rfl
 | _=>rfl
theorem qdQ {ρ σ:Nat→Nat} {K:Nat→Prop} (h: ∀i,K i→ρ i=σ i) (x:IV):qa2 K x→rnm ρ x=rnm σ x:=by
 apply IV.rec (motive_1:=fun x=>qa2 K x→rnm ρ x=rnm σ x) (motive_2:=fun l=>qaH K l→rnms ρ l=rnms σ l)
 ·intro x _;rfl
 ·intro b g off len hb;simp only [rnm,h b hb]
 ·intro b g r j hb;simp only [rnm,h b hb]
 ·intro b hb;simp only [rnm,h b hb]
 ·intro fn f c i1 i2 hb;simp only [rnm,i1 hb.1,i2 hb.2]
 ·intro cs ih hb;simp only [rnm,ih hb]
 ·intro cs ih hb;simp only [rnm,ih hb]
 ·intro _;rfl
 ·intro _;rfl
 ·intro x l i1 i2 hb;simp only [rnms,i1 hb.1,i2 hb.2]
theorem qdm {ρ σ:Nat→Nat} {K:Nat→Prop} (h: ∀i,K i→ρ i=σ i): ∀ {l:List IV},qaH K l→rnms ρ l=rnms σ l
 | [],_=>rfl
 | x::r,hb=>by simp only [rnms,qdQ h x hb.1,qdm h hb.2]
theorem qfA {ρ σ:Nat→Nat} {K:Nat→Prop} (h: ∀i,K i→ρ i=σ i) {b:IBlk} (hb:qbx K b):rnB ρ b=rnB σ b:=by
 cases b with
 | arr sz g rows=>simp only [rnB];congr 1;exact List.map_congr_left fun r hr=>qdm h (hb r hr)
 | mp es=>simp only [rnB];congr 1;exact List.map_congr_left fun e he=>by rw [qdQ h _ (hb e he)]
 | ob k vs=>simp only [rnB];congr 1;exact qdm h hb
theorem qho (x:IV):rnm id x=x:=by
 apply IV.rec (motive_1:=fun x=>rnm id x=x) (motive_2:=fun l=>rnms id l=l)<;>simp_all [rnm,rnms]
theorem qf0: ∀l:List IV,rnms id l=l
 | []=>rfl
 | x::r=>by simp only [rnms,qho,qf0 r]
theorem qhn (b:IBlk):rnB id b=b:=by
 cases b with
 | arr sz g rows=>simp only [rnB];congr 1;exact(List.map_congr_left fun r _=>qf0 r).trans (List.map_id' _)
 | mp es=>simp only [rnB];congr 1;exact(List.map_congr_left fun e _=>by rw [qho]).trans (List.map_id' _)
 | ob k vs=>simp only [rnB];congr 1;exact qf0 vs
structure Ren (K:Nat→Prop) (σ ρ:Nat→Nat) (M M':Mem):Prop where
 w:M'.w=M.w
 A: ∀i,K i→M.H.A (σ i)→M'.H.A (ρ i)
 G: ∀i,K i→ ∀blk',M'.H.G (ρ i)=some blk'→ ∃blk,M.H.G (σ i)=some blk∧blk'.sz=blk.sz∧blk'.gen=blk.gen∧blk'.len=blk.len∧blk'.isMp=blk.isMp
 β: ∀i,K i→M'.β (ρ i)=M.β (σ i)
 own: ∀c,M'.own c→M.own c
theorem VRel.ren {K:Nat→Prop} {σ ρ:Nat→Nat} {M M':Mem} (a:Ren K σ ρ M M') {x:IV} {v:Value} (h:VRel M x v): ∀y,x=rnm σ y→qa2 K y→VRel M' (rnm ρ y) v:=by
 induction h with
 | p x v h=>
   intro y e hk
   cases y<;>simp only [rnm,reduceCtorEq,IV.p.injEq] at e
   subst e
   exact .p _ v (by rw [a.w];exact h.own' a.own)
 | ref b g off len v hA hv h=>
   intro y e hk
   cases y<;>simp only [rnm,reduceCtorEq,IV.ref.injEq] at e
   obtain⟨rfl,rfl,rfl,rfl⟩:=e
   refine .ref _ _ _ _ v (a.A _ hk hA) hv fun blk' hb=>?_
   obtain⟨blk,g1,g2,g3,g4,g5⟩:=a.G _ hk blk' hb
   rw [a.β _ hk,g2,g3,g4]
   exact h blk g1
 | ptr b g r j v hA hv h=>
   intro y e hk
   cases y<;>simp only [rnm,reduceCtorEq,IV.ptr.injEq] at e
   obtain⟨rfl,rfl,rfl,rfl⟩:=e
   refine .ptr _ _ _ _ v (a.A _ hk hA) hv fun blk' hb=>?_
   obtain⟨blk,g1,g2,g3,g4,g5⟩:=a.G _ hk blk' hb
   rw [a.β _ hk,g2,g3]
   exact h blk g1
 | mp b v hA hv h=>
   intro y e hk
   cases y<;>simp only [rnm,reduceCtorEq,IV.mp.injEq] at e
   subst e
   refine .mp _ v (a.A _ hk hA) hv fun blk' hb=>?_
   obtain⟨blk,g1,g2,g3,g4,g5⟩:=a.G _ hk blk' hb
   rw [a.β _ hk,g5]
   exact h blk g1
 | clo fn first cap vf vc hf hc rf rc i1 i2=>
   intro y e hk
   cases y<;>simp only [rnm,reduceCtorEq,IV.clo.injEq] at e
   obtain⟨rfl,rfl,rfl⟩:=e
   refine .clo _ _ _ vf vc (by rw [hf,qaC,qaC]) (by rw [hc,qaC,qaC]) (fun i x v hx hv=>?_) fun i x v hx hv=>?_
   ·obtain⟨z,hz,rfl⟩:=qcr hx
    exact i1 i _ v (qbD hz) hv z rfl (qaN hk.1 hz)
   ·obtain⟨z,hz,rfl⟩:=qcr hx
    exact i2 i _ v (qbD hz) hv z rfl (qaN hk.2 hz)
 | agg cs vs hl h1 r ih=>
   intro y e hk
   cases y<;>simp only [rnm,reduceCtorEq,IV.agg.injEq] at e
   subst e
   refine .agg _ vs (by rw [hl,qaC,qaC]) h1 fun i x v hx hv=>?_
   obtain⟨z,hz,rfl⟩:=qcr hx
   exact ih i _ v (qbD hz) hv z rfl (qaN hk hz)
 | tup cs vs hl r ih=>
   intro y e hk
   cases y<;>simp only [rnm,reduceCtorEq,IV.tup.injEq] at e
   subst e
   refine .tup _ vs (by rw [hl,qaC,qaC]) fun i x v hx hv=>?_
   obtain⟨z,hz,rfl⟩:=qcr hx
   exact ih i _ v (qbD hz) hv z rfl (qaN hk hz)
 | dead v=>
   intro y e hk
   cases y<;>simp only [rnm,reduceCtorEq] at e
   exact .dead v
theorem BRel.ren {K:Nat→Prop} {σ ρ:Nat→Nat} {M M':Mem} (a:Ren K σ ρ M M') {i:Nat} (hi:K i) {blk:IBlk} (h:BRel M (σ i) (rnB σ blk)) (hin:qbx K blk):BRel M' (ρ i) (rnB ρ blk):=by
 cases blk with
 | arr sz g rows=>
   obtain⟨h1,h2,h3⟩:=h
   refine⟨fun row hrow=>?_,fun hn=>?_,fun c o n hc=>?_⟩
   ·obtain⟨r,hr,rfl⟩:=List.mem_map.1 hrow
    have:=h1 _ (List.mem_map_of_mem hr)
    rw [qaC] at this ⊢;exact this
   ·have:=h2 (by rw [←a.β i hi];exact hn)
    rw [List.map_eq_nil_iff] at this ⊢;exact this
   ·rw [a.β i hi] at hc
    obtain⟨cs,ty,q1,q2,q3,q4,q5⟩:=h3 c o n hc
    rw [List.length_map] at q2
    refine⟨cs,ty,by rw [a.w];exact q1,by rw [List.length_map];exact q2,q3,q4,fun k row j x hk hj=>?_⟩
    rw [List.getElem?_map] at hk
    cases hr:rows[k]? with
    | none=>rw [hr] at hk;cases hk
    | some r=>
      rw [hr] at hk
      simp only [Option.map_some,Option.some.injEq] at hk
      subst hk
      obtain⟨z,hz,rfl⟩:=qcr hj
      obtain⟨v,v1,v2,v3⟩:=q5 k (rnms σ r) j (rnm σ z) (by rw [List.getElem?_map,hr];rfl) (qbD hz)
      exact⟨v,v1,v2,v3.ren a z rfl (qaN (hin r (List.mem_of_getElem? hr)) hz)⟩
 | mp es=>
   obtain⟨c,o,n,hc,es',clock,q1,q2,q3⟩:=h
   refine⟨c,o,n,by rw [a.β i hi];exact hc,es',clock,by rw [a.w];exact q1,by simpa using q2,fun k key x hk=>?_⟩
   rw [List.getElem?_map] at hk
   cases hr:es[k]? with
   | none=>rw [hr] at hk;cases hk
   | some e0=>
     rw [hr] at hk
     simp only [Option.map_some,Option.some.injEq,Prod.mk.injEq] at hk
     obtain⟨rfl,rfl⟩:=hk
     obtain⟨e,e1,e2,e3⟩:=q3 k e0.1 (rnm σ e0.2) (by rw [List.getElem?_map,hr];rfl)
     exact⟨e,e1,e2,e3.ren a _ rfl (hin e0 (List.mem_of_getElem? hr))⟩
 | ob k vs=>
   obtain⟨c,o,n,hc,ob,us,q1,q2,q3,q4⟩:=h
   refine⟨c,o,n,by rw [a.β i hi];exact hc,ob,us,by rw [a.w];exact q1,q2,by rw [q3,qaC,qaC],fun j x v hj hv=>?_⟩
   obtain⟨z,hz,rfl⟩:=qcr hj
   exact(q4 j _ v (qbD hz) hv).ren a z rfl (qaN hin hz)
theorem qbG.ren {K:Nat→Prop} {σ ρ:Nat→Nat} {M M':Mem} (a:Ren K σ ρ M M') {r:IEnd} {e:Ending} (h:qbG M (rnE σ r) e) (hr: ∀x,r= .ret x→qa2 K x):qbG M' (rnE ρ r) e:=by
 cases r with
 | ret x=>obtain⟨v,h1,h2⟩:=h;exact⟨v,h1,h2.ren a x rfl (hr x rfl)⟩
 | pan c=>exact h
def qai:Nat→List IBlk→List (Nat × IBlk)
 | _, []=> []
 | i,x::r=>(i,x)::qai (i+1) r
theorem qcJ: ∀(l:List IBlk) (i k:Nat),look (qai i l) k=if i≤k then l[k - i]? else none
 | [],i,k=>by simp [qai,look]
 | y::r,i,k=>by
   simp only [qai,look]
   by_cases e:k=i
   ·subst e;simp
   ·rw [if_neg (fun h=>e h.symm),qcJ r (i+1) k]
    by_cases h:i≤k
    ·rw [if_pos h,if_pos (by omega),show k - i=(k - (i+1))+1 by omega];simp
    ·rw [if_neg h,if_neg (by omega)]
theorem qgi (l:List IBlk) (k:Nat):look (qai 0 l) k=l[k]? :=by rw [qcJ];simp
theorem qgy {n:Nat} {ρ:Nat→Nat} (hinj: ∀i j,i < n→j < n→ρ i=ρ j→i=j): ∀ {W:List (Nat × IBlk)},(∀p∈W,p.1 < n)→ ∀ {i:Nat},i < n→look (rnL ρ W) (ρ i)=(look W i).map (rnB ρ)
 | [],_,i,_=>rfl
 | p::W,hW,i,hi=>by
   have ih:=qgy hinj (W:=W) (fun q hq=>hW q (List.mem_cons_of_mem _ hq)) hi
   have hp:=hW p (List.mem_cons_self ..)
   show look ((ρ p.1,rnB ρ p.2)::rnL ρ W) (ρ i)=_
   simp only [look]
   by_cases e:p.1=i
   ·subst e;simp
   ·rw [if_neg (fun h=>e (hinj _ _ hp hi h)),if_neg e,ih]
theorem qiW {n:Nat} {ρ:Nat→Nat} {W:List (Nat × IBlk)} (hW: ∀p∈W,p.1 < n) {b:Nat} (hb: ∀i,i < n→ρ i≠b):look (rnL ρ W) b=none:=by
 cases h:look (rnL ρ W) b with
 | none=>rfl
 | some x=>
   have:=qaA h
   obtain⟨p,hp,e⟩:=List.mem_map.1 this
   simp only [Prod.mk.injEq] at e
   exact absurd e.1 (hb _ (hW p hp))
structure qi1 (k c:Nat) (σ:Nat→Nat):Prop where
 old: ∀i,i < k→σ i=i
 new: ∀i,k≤i→i < k+c→k≤σ i
 inj: ∀i j,i < k+c→j < k+c→σ i=σ j→i=j
structure WOk (k c:Nat) (W:List (Nat × IBlk)):Prop where
 low: ∀p∈W,p.1 < k+c∧qbx (· < k+c) p.2
 new: ∀i,k≤i→i < k+c→qaI W i
theorem qgp {n:FuncId} {zs:List IV} {c:Nat} {R:List IBlk} {Ψ:IEnd→List (Nat × IBlk)→Prop} {ρ:Nat→Nat}
  (hinj: ∀i j,i < R.length+c→j < R.length+c→ρ i=ρ j→i=j) (hin: ∀blk∈R,qbx (· < R.length) blk) (hzs:qaH (· < R.length) zs)
  (hp:qaX P n zs ⟨R.length,qai 0 R⟩ fun r _ l=> ∃σ r0 W,qi1 R.length c σ∧WOk R.length c W∧l=rnL σ W∧(∀M e,qbG M r e→qbG M (rnE σ r0) e)∧(∀x,r0= .ret x→qa2 (· < R.length+c) x)∧Ψ r0 W)
  {M:Mem} (hM:MRel M) (hG: ∀i blk,R[i]? =some blk→M.H.G (ρ i)=some (rnB ρ blk)) (hF: ∀j,R.length≤j→j < R.length+c→ ¬M.H.A (ρ j))
  {vs:List Value} (hlen:vs.length=zs.length) (hv: ∀(i:Nat) (y:IV) (v:Value),zs[i]? =some y→vs[i]? =some v→VRel M (rnm ρ y) v):
  Calls P n ⟨vs⟩ M.w fun e w'=> ∃M' r0 W,M'.w=w'∧qad M M'∧MRel M'∧M'.H=M.H.upd (rnL ρ W).reverse∧qbG M' (rnE ρ r0) e∧WOk R.length c W∧Ψ r0 W:=by
 classical
 generalize hk:R.length=k at *
 have hRk: ∀i blk,R[i]? =some blk→i < k:=fun i blk h=>by rw [←hk];exact qab h
 have hRs: ∀i,i < k→ ∃blk,R[i]? =some blk:=fun i h=>⟨_,List.getElem?_eq_getElem (by omega)⟩
 let Mp:Mem:=⟨M.w,⟨(· < k),look (qai 0 R),fun c=>M.H.O c∨ ∃b blk o n,(∀i,i < k→ρ i≠b)∧M.H.G b=some blk∧M.β b=some (c,o,n)⟩,fun i=>if i < k then M.β (ρ i) else none⟩
 have hGp: ∀i,Mp.H.G i=R[i]? :=fun i=>qgi R i
 have hβp: ∀i,i < k→Mp.β i=M.β (ρ i):=fun i h=>if_pos h
 have hownp: ∀c,Mp.own c→M.own c:=by
  rintro c ((h | ⟨b,blk,o,n,_,h1,h2⟩) | ⟨b,blk,o,n,h1,h2⟩)
  ·exact .inl h
  ·exact .inr ⟨b,blk,o,n,h1,h2⟩
  ·rw [hGp] at h1
   have hb:=hRk b blk h1
   rw [hβp b hb] at h2
   exact .inr ⟨ρ b,_,o,n,hG b blk h1,h2⟩
 have ren0:Ren (· < k) ρ id M Mp:=by
  refine⟨rfl,fun i hi _=>hi,fun i hi blk' hb=>?_,fun i hi=>hβp i hi,hownp⟩
  have hb:R[i]? =some blk':=by rw [←hGp];exact hb
  exact⟨_,hG i blk' hb,(qek ..).symm,(rnB_gen ..).symm,(rnB_len ..).symm,(qcW ..).symm⟩
 have relp:MRel Mp:=by
  refine⟨fun b blk h=>hRk b blk (by rw [←hGp];exact h),fun b blk h=>?_,fun b b' blk blk' c o n o' n' h h' hc hc'=>?_,fun c hc=>?_,fun b blk c o n h hc=>?_⟩
  ·have hb:R[b]? =some blk:=by rw [←hGp];exact h
   have:=BRel.ren ren0 (hRk b blk hb) (hM.blk _ _ (hG b blk hb)) (hin blk (List.mem_of_getElem? hb))
   rw [qhn] at this;exact this
  ·have hb:R[b]? =some blk:=by rw [←hGp];exact h
   have hb':R[b']? =some blk':=by rw [←hGp];exact h'
   have l1:=hRk b blk hb
   have l2:=hRk b' blk' hb'
   rw [hβp b l1] at hc;rw [hβp b' l2] at hc'
   exact hinj b b' (by omega) (by omega) (hM.inj _ _ _ _ c o n o' n' (hG b blk hb) (hG b' blk' hb') hc hc')
  ·rcases hc with hc | ⟨b,blk,o,n,_,h1,h2⟩
   ·exact hM.olt c hc
   ·exact hM.lt (.inr ⟨b,blk,o,n,h1,h2⟩)
  ·have hb:R[b]? =some blk:=by rw [←hGp];exact h
   have l1:=hRk b blk hb
   rw [hβp b l1] at hc
   rintro(ho | ⟨b',blk',o',n',hn,h1,h2⟩)
   ·exact hM.odis _ _ c o n (hG b blk hb) hc ho
   ·exact hn b l1 (hM.inj _ _ _ _ c o n o' n' (hG b blk hb) h1 hc h2)
 have hv1: ∀(i:Nat) (y:IV) (v:Value),zs[i]? =some y→vs[i]? =some v→VRel Mp y v:=fun i y v hy hw=>by
  have:=(hv i y v hy hw).ren ren0 y rfl (qaN hzs hy)
  rw [qho] at this;exact this
 refine Calls.mono (hp Mp vs ⟨relp,fun b h=>h,fun b=>rfl⟩ hlen hv1) fun e w' ⟨M1,nx',l',r,e1,st,hh,he,σ,r0,W,hσ,hW,hl,hr,hx,hΨ⟩=>?_
 subst e1 hl
 have he:=hr M1 e he
 have hWk: ∀p∈W,p.1 < k+c:=fun p hp=>(hW.low p hp).1
 -- the blocks, by their numbers
 have key: ∀i,i < k+c→ ∃blk,(match look (rnL ρ W) (ρ i) with | some x=>some x | none=>M.H.G (ρ i))=some (rnB ρ blk)∧M1.H.G (σ i)=some (rnB σ blk)∧qbx (· < k+c) blk:=by
  intro i hi
  rw [qgy hinj hWk hi,hh.G,qac,qgy hσ.inj hWk hi]
  cases hlw:look W i with
  | some blk=>exact⟨blk,rfl,rfl,(hW.low _ (qaA hlw)).2⟩
  | none=>
    have hik:i < k:=by
     rcases Nat.lt_or_ge i k with h | h
     ·exact h
     ·obtain⟨blk,hb⟩:=hW.new i h hi
      rw [hlw] at hb;cases hb
    obtain⟨blk,hb⟩:=hRs i hik
    have hbi:=hin blk (List.mem_of_getElem? hb)
    have hbi':qbx (· < k+c) blk:=by
     cases blk with
     | arr sz g rows=>exact fun row hrow=>qb8 (fun b (hb:b < k)=>(by omega:b < k+c)) (hbi row hrow)
     | mp es=>exact fun e he=>qdY (fun b (hb:b < k)=>(by omega:b < k+c)) _ (hbi e he)
     | ob k' vs=>exact qb8 (fun b (hb:b < k)=>(by omega:b < k+c)) hbi
    refine⟨blk,by simpa using hG i blk hb,?_,hbi'⟩
    simp only [Option.map_none,hσ.old i hik,qgi,hb]
    rw [qfA (σ:=id) (K:=(· < k)) (fun i hi=>hσ.old i hi) hbi,qhn]
 let M':Mem:=⟨M1.w,M.H.upd (rnL ρ W).reverse,fun b=>if h: ∃i,i < k+c∧ρ i=b then M1.β (σ (Classical.choose h)) else M.β b⟩
 have hG': ∀b,M'.H.G b=match look (rnL ρ W) b with | some x=>some x | none=>M.H.G b:=by
  intro b
  show(M.H.upd (rnL ρ W).reverse).G b=_
  rw [qf5,List.reverse_reverse]
  cases look (rnL ρ W) b<;>rfl
 have hA': ∀b,M'.H.A b↔M.H.A b∨ ∃blk,(b,blk)∈rnL ρ W:=by
  intro b
  show(M.H.upd (rnL ρ W).reverse).A b↔_
  rw [qhx];simp
 have hβin: ∀i,i < k+c→M'.β (ρ i)=M1.β (σ i):=by
  intro i hi
  have hex: ∃j,j < k+c∧ρ j=ρ i:=⟨i,hi,rfl⟩
  have hc:=Classical.choose_spec hex
  show(if h: ∃j,j < k+c∧ρ j=ρ i then M1.β (σ (Classical.choose h)) else M.β (ρ i))=_
  rw [dif_pos hex,hinj _ _ hc.1 hi hc.2]
 have hβout: ∀b,(∀i,i < k+c→ρ i≠b)→M'.β b=M.β b:=fun b hb=>dif_neg fun⟨i,h1,h2⟩=>hb i h1 h2
 have hGout: ∀b,(∀i,i < k+c→ρ i≠b)→M'.H.G b=M.H.G b:=fun b hb=>by rw [hG',qiW hWk hb]
 have hGin: ∀i,i < k+c→ ∃blk,M'.H.G (ρ i)=some (rnB ρ blk)∧M1.H.G (σ i)=some (rnB σ blk)∧qbx (· < k+c) blk:=fun i hi=>by
  obtain⟨blk,h1,h2⟩:=key i hi
  exact⟨blk,by rw [hG'];exact h1,h2⟩
 have hO':M'.H.O=M.H.O:=by
  show(M.H.upd (rnL ρ W).reverse).O=M.H.O
  generalize (rnL ρ W).reverse=V
  generalize M.H=H
  induction V generalizing H with
  | nil=>rfl
  | cons p V ih=>exact ih (H.put p.1 p.2)
 have hO1: ∀c,Mp.H.O c→M1.H.O c:=fun c h=>by rw [st.oeq];exact h
 have hor: ∀b,(∃i,i < k+c∧ρ i=b)∨ ∀i,i < k+c→ρ i≠b:=by
  intro b
  by_cases h: ∃i,i < k+c∧ρ i=b
  ·exact .inl h
  ·exact .inr fun i hi e=>h ⟨i,hi,e⟩
 have hown: ∀c,M'.own c→M1.own c:=by
  rintro c (h | ⟨b,blk,o,n,h1,h2⟩)
  ·rw [hO'] at h
   exact .inl (hO1 c (.inl h))
  ·rcases hor b with ⟨i,hi,rfl⟩ | hb
   ·obtain⟨blk0,g1,g2,_⟩:=hGin i hi
    rw [hβin i hi] at h2
    exact .inr ⟨σ i,_,o,n,g2,h2⟩
   ·rw [hGout b hb] at h1;rw [hβout b hb] at h2
    exact .inl (hO1 c (.inr ⟨b,blk,o,n,fun i hi=>hb i (by omega),h1,h2⟩))
 have s:qad M M':=by
  refine⟨st.os,st.tape,st.output,st.size,fun c hc hno=>?_,fun b hb=>(hA' b).2 (.inl hb),fun b blk' hA hb=>?_,hO',fun c hc=>st.ofix c (.inl hc)⟩
  ·obtain⟨k1,k2⟩:=st.keep c hc fun h=>hno (hownp c h)
   exact⟨k1,fun h=>k2 (hown c h)⟩
  ·rcases hor b with ⟨i,hi,rfl⟩ | hk'
   ·have hik:i < k:=by
     rcases Nat.lt_or_ge i k with h | h
     ·exact h
     ·exact absurd hA (hF i h hi)
    obtain⟨blk0,g1,g2,_⟩:=hGin i hi
    rw [hb] at g1;cases g1
    rw [hσ.old i hik] at g2
    obtain⟨blk1,q1,q2,q3,q4,q5⟩:=st.comp i _ hik g2
    have hb1:R[i]? =some blk1:=by rw [←hGp];exact q1
    refine⟨_,hG i blk1 hb1,?_,?_,?_,fun e=>?_⟩
    ·rw [qek,qek];rw [qek] at q2;exact q2
    ·rw [qcW,qcW];rw [qcW] at q3;exact q3
    ·rw [rnB_gen,rnB_gen];rw [rnB_gen] at q4;exact q4
    ·rw [rnB_gen,rnB_gen] at e
     rw [rnB_gen] at q5
     obtain⟨f1,f2⟩:=q5 e
     rw [rnB_len] at f2
     rw [rnB_len,rnB_len]
     exact⟨by rw [hβin i hi,hσ.old i hik,f1,hβp i hik],f2⟩
   ·rw [hGout b hk'] at hb
    exact⟨blk',hb,rfl,rfl,Nat.le_refl _,fun _=>⟨hβout b hk',rfl⟩⟩
 have al:Ren (· < k+c) σ ρ M1 M':=by
  refine⟨rfl,fun i hi _=>?_,fun i hi blk' hb=>?_,hβin,hown⟩
  ·have hii:i < k+c:=hi
   rw [hA']
   obtain⟨blk,g1,_⟩:=key i hii
   cases hlw:look (rnL ρ W) (ρ i) with
   | some x=>exact .inr ⟨x,qaA hlw⟩
   | none=>rw [hlw] at g1;exact .inl (hM.dom _ _ g1)
  ·obtain⟨blk,g1,g2,_⟩:=hGin i hi
   rw [hb] at g1;cases g1
   exact⟨_,g2,by rw [qek,qek],by rw [rnB_gen,rnB_gen],by rw [rnB_len,rnB_len],by rw [qcW,qcW]⟩
 have rel:MRel M':=by
  refine⟨fun b blk hb=>?_,fun b blk hb=>?_,fun b b' blk blk' c o n o' n' h h' c1 c2=>?_,fun c hc=>?_,fun b blk c o n h hc=>?_⟩
  ·rw [hA']
   rw [hG'] at hb
   cases hlw:look (rnL ρ W) b with
   | some x=>exact .inr ⟨x,qaA hlw⟩
   | none=>rw [hlw] at hb;exact .inl (hM.dom _ _ hb)
  ·rcases hor b with ⟨i,hi,rfl⟩ | hk'
   ·obtain⟨blk0,g1,g2,g3⟩:=hGin i hi
    rw [hb] at g1;cases g1
    exact BRel.ren al hi (hh.rel.blk _ _ g2) g3
   ·rw [hGout b hk'] at hb
    refine BRel.step s (hβout b hk') (fun c o n hc=>?_) (hM.blk b blk hb)
    exact st.ofix c (.inr ⟨b,blk,o,n,fun i hi=>hk' i (by omega),hb,hc⟩)
  ·rcases hor b with ⟨i,hi,rfl⟩ | hk1<;>rcases hor b' with ⟨j,hj,rfl⟩ | hk2
   ·obtain⟨x,g1,g2,_⟩:=hGin i hi
    obtain⟨y,f1,f2,_⟩:=hGin j hj
    rw [hβin i hi] at c1;rw [hβin j hj] at c2
    have:=hh.rel.inj _ _ _ _ c o n o' n' g2 f2 c1 c2
    rw [hσ.inj i j hi hj this]
   ·obtain⟨x,g1,g2,_⟩:=hGin i hi
    rw [hβin i hi] at c1;rw [hGout b' hk2] at h';rw [hβout b' hk2] at c2
    exact absurd (hO1 c (.inr ⟨b',blk',o',n',fun i hi=>hk2 i (by omega),h',c2⟩)) (hh.rel.odis _ _ c o n g2 c1)
   ·obtain⟨x,g1,g2,_⟩:=hGin j hj
    rw [hβin j hj] at c2;rw [hGout b hk1] at h;rw [hβout b hk1] at c1
    exact absurd (hO1 c (.inr ⟨b,blk,o,n,fun i hi=>hk1 i (by omega),h,c1⟩)) (hh.rel.odis _ _ c o' n' g2 c2)
   ·rw [hGout b hk1] at h;rw [hβout b hk1] at c1;rw [hGout b' hk2] at h';rw [hβout b' hk2] at c2
    exact hM.inj b b' blk blk' c o n o' n' h h' c1 c2
  ·rw [hO'] at hc
   exact Nat.lt_of_lt_of_le (hM.olt c hc) st.size
  ·rw [hO']
   rcases hor b with ⟨i,hi,rfl⟩ | hk1
   ·obtain⟨x,g1,g2,_⟩:=hGin i hi
    rw [hβin i hi] at hc
    exact fun ho=>hh.rel.odis _ _ c o n g2 hc (hO1 c (.inl ho))
   ·rw [hGout b hk1] at h;rw [hβout b hk1] at hc
    exact hM.odis b blk c o n h hc
 exact⟨M',r0,W,rfl,s,rel,rfl,he.ren al hx,hW,hΨ⟩
end Go.Idl
/-
 Contracts with blocks: how they are proved on the walk, and used there.
-/
namespace Go.Idl
variable {P:Program} {h0:IH}
theorem qcM {n:Nat} (x:IV):bel n x→qa2 (· < n) x:=by
 apply IV.rec (motive_1:=fun x=>bel n x→qa2 (· < n) x) (motive_2:=fun l=>bels n l→qaH (· < n) l)
 ·intro x _;trivial
 ·intro b g off len h;exact h
 ·intro b g r j h;exact h
 ·intro b h;exact h
 ·intro fn f c i1 i2 h;exact⟨i1 h.1,i2 h.2⟩
 ·intro cs ih h;exact ih h
 ·intro cs ih h;exact ih h
 ·intro _;trivial
 ·intro _;trivial
 ·intro x l i1 i2 h;exact⟨i1 h.1,i2 h.2⟩
theorem qb7 {n:Nat}: ∀ {l:List IV},bels n l→qaH (· < n) l
 | [],_=>trivial
 | x::r,h=>⟨qcM x h.1,qb7 h.2⟩
theorem qdK {n:Nat} {b:IBlk} (h:qa4 n b):qbx (· < n) b:=by
 cases b with
 | arr sz g rows=>exact fun row hr=>qb7 (h row hr)
 | mp es=>exact fun e he=>qcM _ (h e he)
 | ob k vs=>exact qb7 h
theorem qeD {f:FuncId} {args args':List IV} {h:IH} {Q:IEnd→Nat→List (Nat × IBlk)→Prop} (hc:qaX P f args' h Q) (hw:wks args args'):qaX P f args h Q:=by
 intro M vs hM hl hr
 obtain⟨e1,e2⟩:=qbB hw
 refine hc M vs hM (by omega) fun i y v hy hv=>?_
 have hlt:=qab hy
 have hx:=List.getElem?_eq_getElem (show i < args.length by omega)
 exact(hr i _ v hx hv).wk (e2 i _ y hx hy)
structure PG (P:Program) (f:FuncId) (args:List IV) (R:List IBlk) (c:Nat) (x:IV) (W:List (Nat × IBlk)):Prop where
 hzs:qaH (· < R.length) args
 hin: ∀blk∈R,qbx (· < R.length) blk
 hW:WOk R.length c W
 hx:qa2 (· < R.length+c) x
 call:qaX P f args ⟨R.length,qai 0 R⟩ fun r _ l=> ∃σ,qi1 R.length c σ∧r= .ret (rnm σ x)∧l=rnL σ W
structure PX (P:Program) (f:FuncId) (args:List IV) (R:List IBlk) (ch:List PanicEntry) (Wp:List (Nat × IBlk)→Prop):Prop where
 hzs:qaH (· < R.length) args
 hin: ∀blk∈R,qbx (· < R.length) blk
 call:qaX P f args ⟨R.length,qai 0 R⟩ fun r _ l=>r= .pan ch∧Wp l∧ ∀p∈l,p.1 < R.length∧qbx (· < R.length) p.2
def ridx:List Nat→Nat→Nat→Nat
 | [],nx,i=>nx+i
 | b::_,_,0=>b
 | _::r,nx,i+1=>ridx r nx i
theorem qdC: ∀ {ids:List Nat} {nx i:Nat} (h:i < ids.length),ridx ids nx i=ids[i]
 | b::r,nx,0,_=>rfl
 | b::r,nx,i+1,h=>by simpa [ridx] using qdC (ids:=r) (nx:=nx) (by simpa using h)
theorem qb6: ∀ {ids:List Nat} {nx i:Nat},ids.length≤i→ridx ids nx i=nx+(i - ids.length)
 | [],nx,i,_=>by simp [ridx]
 | b::r,nx,0,h=>by simp at h
 | b::r,nx,i+1,h=>by
   have:=qb6 (ids:=r) (nx:=nx) (i:=i) (by simpa using h)
   rw [ridx,this,List.length_cons];congr 1;omega
def qb2 (G:Nat→Option IBlk) (ρ:Nat→Nat):List Nat→List IBlk→Prop
 | [], []=>True
 | b::r,blk::R=>G b=some (rnB ρ blk)∧qb2 G ρ r R
 | _,_=>False
theorem qbT {G:Nat→Option IBlk} {ρ:Nat→Nat}: ∀ {ids:List Nat} {R:List IBlk},qb2 G ρ ids R→ids.length=R.length
 | [], [],_=>rfl
 | _::_,_::_,h=>by simp [qbT h.2]
 | [],_::_,h=>h.elim
 | _::_, [],h=>h.elim
theorem qfD {G:Nat→Option IBlk} {ρ:Nat→Nat}: ∀ {ids:List Nat} {R:List IBlk},qb2 G ρ ids R→ ∀(i b:Nat) (blk:IBlk),ids[i]? =some b→R[i]? =some blk→G b=some (rnB ρ blk)
 | [], [],_,i,b,blk,h,_=>by simp at h
 | _::_,_::_,h,0,b,blk,h1,h2=>by simp at h1 h2;subst h1 h2;exact h.1
 | _::_,_::_,h,i+1,b,blk,h1,h2=>qfD h.2 i b blk (by simpa using h1) (by simpa using h2)
 | [],_::_,h,_,_,_,_,_=>h.elim
 | _::_, [],h,_,_,_,_,_=>h.elim
def qao:List Nat→Prop
 | []=>True
 | b::r=>nin b r∧qao r
where nin (b:Nat):List Nat→Prop
 | []=>True
 | c::r=> ¬b=c∧nin b r
theorem qhI {b:Nat}: ∀ {r:List Nat},qao.nin b r→b ∉ r
 | [],_=>by simp
 | c::r,h=>by simp only [List.mem_cons,not_or];exact⟨h.1,qhI h.2⟩
theorem qer: ∀ {ids:List Nat},qao ids→ ∀(i j:Nat) (hi:i < ids.length) (hj:j < ids.length),ids[i]=ids[j]→i=j
 | [],_,i,j,hi,_,_=>by simp at hi
 | b::r,h,0,0,_,_,_=>rfl
 | b::r,h,0,j+1,hi,hj,e=>by exact absurd (by simp only [List.getElem_cons_zero,List.getElem_cons_succ] at e;rw [e];exact List.getElem_mem _) (qhI h.1)
 | b::r,h,i+1,0,hi,hj,e=>by exact absurd (by simp only [List.getElem_cons_zero,List.getElem_cons_succ] at e;rw [←e];exact List.getElem_mem _) (qhI h.1)
 | b::r,h,i+1,j+1,hi,hj,e=>by rw [qer h.2 i j (by simpa using hi) (by simpa using hj) (by simpa using e)]
structure Here (M:Mem) (ids:List Nat) (nx:Nat) (R:List IBlk) (c:Nat):Prop where
 inj: ∀i j,i < R.length+c→j < R.length+c→ridx ids nx i=ridx ids nx j→i=j
 seen: ∀i blk,R[i]? =some blk→M.H.G (ridx ids nx i)=some (rnB (ridx ids nx) blk)
 new: ∀j,R.length≤j→j < R.length+c→ ¬M.H.A (ridx ids nx j)
theorem qfM {M:Mem} (hM:MRel M) {G:Nat→Option IBlk} {ids:List Nat} {nx c:Nat} {R:List IBlk} (ha:qao ids) (hR:qb2 G (ridx ids nx) ids R)
  (hG: ∀b blk,b∈ids→G b=some blk→M.H.G b=some blk) (hF: ∀b,nx≤b→b < nx+c→ ¬M.H.A b):Here M ids nx R c:=by
 have hl:=qbT hR
 have hget: ∀i blk,R[i]? =some blk→M.H.G (ridx ids nx i)=some (rnB (ridx ids nx) blk):=by
  intro i blk hb
  have hi:i < ids.length:=by have:=qab hb;omega
  rw [qdC hi]
  exact hG _ _ (List.getElem_mem hi) (qfD hR i _ blk (List.getElem?_eq_getElem hi) hb)
 have hnew: ∀j,R.length≤j→j < R.length+c→ ¬M.H.A (ridx ids nx j):=by
  intro j h1 h2
  rw [qb6 (by omega)]
  exact hF _ (by omega) (by omega)
 refine⟨fun i j hi hj e=>?_,hget,hnew⟩
 have hold: ∀i,i < R.length→M.H.A (ridx ids nx i):=fun i hi=>hM.dom _ _ (hget i _ (List.getElem?_eq_getElem hi))
 rcases Nat.lt_or_ge i R.length with h1 | h1<;>rcases Nat.lt_or_ge j R.length with h2 | h2
 ·rw [qdC (by omega),qdC (by omega)] at e
  exact qer ha i j (by omega) (by omega) e
 ·exact absurd (e ▸hold i h1) (hnew j h2 hj)
 ·exact absurd (e ▸hold j h2) (hnew i h1 hi)
 ·rw [qb6 (by omega),qb6 (by omega)] at e
  omega
section
variable {f:FuncId} {args:List IV} {R:List IBlk} {c:Nat} {x:IV} {W:List (Nat × IBlk)} {ch:List PanicEntry} {Wp:List (Nat × IBlk)→Prop}
theorem PG.calls (h:PG P f args R c x W) {M:Mem} (hM:MRel M) {ids:List Nat} {nx:Nat} (hh:Here M ids nx R c) {vs:List Value} (hlen:vs.length=args.length)
  (hv: ∀(i:Nat) (y:IV) (v:Value),args[i]? =some y→vs[i]? =some v→VRel M (rnm (ridx ids nx) y) v):
  Calls P f ⟨vs⟩ M.w fun e w'=> ∃M',M'.w=w'∧qad M M'∧MRel M'∧M'.H=M.H.upd (rnL (ridx ids nx) W).reverse∧ ∃v,e= .returned v∧VRel M' (rnm (ridx ids nx) x) v:=by
 refine(qgp (Ψ:=fun r0 V=>r0= .ret x∧V=W) hh.inj h.hin h.hzs (h.call.mono fun r n l ⟨σ,h1,h2,h3⟩=>⟨σ, .ret x,W,h1,h.hW,h3,?_,?_,rfl,rfl⟩) hM hh.seen hh.new hlen hv).mono ?_
 ·intro M e he;rw [h2] at he;exact he
 ·intro z hz;cases hz;exact h.hx
 ·rintro e w' ⟨M',r0,V,e1,st,rel,hH,he,_,rfl,rfl⟩
  exact⟨M',e1,st,rel,hH,he⟩
theorem PX.calls (h:PX P f args R ch Wp) {M:Mem} (hM:MRel M) {ids:List Nat} {nx:Nat} (hh:Here M ids nx R 0) {vs:List Value} (hlen:vs.length=args.length)
  (hv: ∀(i:Nat) (y:IV) (v:Value),args[i]? =some y→vs[i]? =some v→VRel M (rnm (ridx ids nx) y) v):
  Calls P f ⟨vs⟩ M.w fun e w'=> ∃M' W,M'.w=w'∧qad M M'∧MRel M'∧M'.H=M.H.upd (rnL (ridx ids nx) W).reverse∧e= .panicked ch∧Wp W∧ ∀p∈W,p.1 < R.length:=by
 refine(qgp (c:=0) (Ψ:=fun r0 V=>r0= .pan ch∧Wp V) hh.inj h.hin h.hzs (h.call.mono fun r n l ⟨h1,h2,h3⟩=>⟨id, .pan ch,l,⟨fun i _=>rfl,fun i a b=>a,fun i j _ _ e=>e⟩,⟨h3,fun i a b=>absurd b (by omega)⟩,?_,?_,?_,rfl,h2⟩) hM hh.seen hh.new hlen hv).mono ?_
 ·exact((List.map_congr_left fun p _=>by rw [qhn];rfl).trans (List.map_id' _)).symm
 ·intro M e he;rw [h1] at he;exact he
 ·intro z hz;cases hz
 ·rintro e w' ⟨M',r0,V,e1,st,rel,hH,he,hV,rfl,hW⟩
  exact⟨M',V,e1,st,rel,hH,he,hW,fun p hp=>(hV.low p hp).1⟩
theorem qcX {ρ:Nat→Nat} {W:List (Nat × IBlk)} {p:Nat × IBlk} (h:p∈rnL ρ W): ∃q∈W,p.1=ρ q.1:=by
 obtain⟨q,hq,e⟩:=List.mem_map.1 h
 exact⟨q,hq,by rw [←e]⟩
theorem qeC {nx m nx':_} {M M':Mem} (hM:HRel nx m M) (rel:MRel M') (hnx:nx≤nx') {V:List (Nat × IBlk)} (hH:M'.H=M.H.upd V.reverse) (hV: ∀p∈V,p.1 < nx'):HRel nx' (V++m) M':=by
 refine⟨rel,fun b hb=>?_,fun b=>?_⟩
 ·rw [hH,qhx] at hb
  rcases hb with hb | ⟨blk,hb⟩
  ·exact Nat.lt_of_lt_of_le (hM.A b hb) hnx
  ·exact hV _ (by simpa using hb)
 ·rw [hH,qf5,List.reverse_reverse,qac,hM.G]
  cases look V b<;>rfl
theorem seen_mem {G:Nat→Option IBlk} {ids:List Nat} {nx:Nat} (hR:qb2 G (ridx ids nx) ids R) {i:Nat} (hi:i < R.length): ∃blk,G (ridx ids nx i)=some blk∧ridx ids nx i∈ids:=by
 have hl:=qbT hR
 rw [qdC (by omega)]
 exact⟨_,qfD hR i _ _ (List.getElem?_eq_getElem (by omega)) (List.getElem?_eq_getElem hi),List.getElem_mem _⟩
theorem PG.icall (h:PG P f args R c x W) {hp:IH} {ids:List Nat} (ha:qao ids) (hR:qb2 (look hp.m) (ridx ids hp.nx) ids R):
  qaX P f (rnms (ridx ids hp.nx) args) hp fun r nx l=>r= .ret (rnm (ridx ids hp.nx) x)∧nx=hp.nx+c∧l=rnL (ridx ids hp.nx) W:=by
 intro M vs hM hl hr
 have hh:Here M ids hp.nx R c:=qfM hM.rel ha hR (fun b blk _ hb=>by rw [hM.G];exact hb) (fun b h1 _ hb=>by have:=hM.A b hb;omega)
 refine(h.calls hM.rel hh (by rw [hl,qaC]) fun i y v hy hv=>hr i _ v (qbD hy) hv).mono ?_
 rintro e w' ⟨M',e1,st,rel,hH,he⟩
 refine⟨M',hp.nx+c,rnL (ridx ids hp.nx) W, .ret (rnm (ridx ids hp.nx) x),e1,st,qeC hM rel (by omega) hH fun p hp'=>?_,he,rfl,rfl,rfl⟩
 obtain⟨q,hq,e⟩:=qcX hp'
 rw [e]
 rcases Nat.lt_or_ge q.1 R.length with h1 | h1
 ·obtain⟨blk,hb,_⟩:=seen_mem hR h1
  have:=hM.A _ (hM.rel.dom _ blk (by rw [hM.G];exact hb))
  omega
 ·have:=(h.hW.low q hq).1
  rw [qb6 (by rw [qbT hR];exact h1),qbT hR]
  omega
theorem PX.icall (h:PX P f args R ch Wp) {hp:IH} {ids:List Nat} (ha:qao ids) (hR:qb2 (look hp.m) (ridx ids hp.nx) ids R):
  qaX P f (rnms (ridx ids hp.nx) args) hp fun r nx l=>r= .pan ch∧nx=hp.nx∧ ∃W,Wp W∧l=rnL (ridx ids hp.nx) W:=by
 intro M vs hM hl hr
 have hh:Here M ids hp.nx R 0:=qfM hM.rel ha hR (fun b blk _ hb=>by rw [hM.G];exact hb) (fun b h1 _ hb=>by have:=hM.A b hb;omega)
 refine(h.calls hM.rel hh (by rw [hl,qaC]) fun i y v hy hv=>hr i _ v (qbD hy) hv).mono ?_
 rintro e w' ⟨M',W,e1,st,rel,hH,rfl,hW,hk⟩
 refine⟨M',hp.nx,rnL (ridx ids hp.nx) W, .pan ch,e1,st,qeC hM rel (Nat.le_refl _) hH fun p hp'=>?_,rfl,rfl,rfl,W,hW,rfl⟩
 obtain⟨q,hq,e⟩:=qcX hp'
 rw [e]
 obtain⟨blk,hb,_⟩:=seen_mem hR (hk q hq)
 exact hM.A _ (hM.rel.dom _ blk (by rw [hM.G];exact hb))
def rnR (ρ:Nat→Nat) (ids:List Nat) (R:List IBlk):List (Nat × IBlk):=ids.zip (R.map (rnB ρ))
theorem rnR_seen {G:Nat→Option IBlk} {ρ:Nat→Nat}: ∀ {ids:List Nat} {R:List IBlk},qb2 G ρ ids R→ ∀p∈rnR ρ ids R,G p.1=some p.2
 | [], [],_,p,hp=>by simp [rnR] at hp
 | b::r,blk::R,h,p,hp=>by
   simp only [rnR,List.map_cons,List.zip_cons_cons,List.mem_cons] at hp
   rcases hp with rfl | hp
   ·exact h.1
   ·exact rnR_seen h.2 p hp
 | [],_::_,h,_,_=>h.elim
 | _::_, [],h,_,_=>h.elim
theorem qkp {ρ:Nat→Nat} {ids:List Nat} {R:List IBlk} (h:ids.length=R.length):(rnR ρ ids R).map (·.1)=ids:=by
 unfold rnR
 rw [List.map_fst_zip];simp [h]
theorem qlC {ρ:Nat→Nat} {ids:List Nat} {R:List IBlk} (h:ids.length=R.length) {b:Nat} (hb:b∈ids): ∃blk,(b,blk)∈rnR ρ ids R:=by
 rw [←qkp (ρ:=ρ) h] at hb
 obtain⟨p,hp,e⟩:=List.mem_map.1 hb
 exact⟨p.2,by rw [←e];exact hp⟩
theorem PG.loc {o:Oper} {ρo:Operand→Option IV} {g:Operand} {as:List Operand} {ts:Array TypeId} {zs:List IV} {ids:List Nat} {nx:Nat} {G:Nat→Option IBlk} (h:PG P f args R c x W)
  (ho:o.op= .call {callee:= .value g,args:=⟨as⟩,argTypes:=ts}) (hc:qar ρo g as=some (f,zs)) (hn:fnOk P f=true) (hw:wks zs (rnms (ridx ids nx) args)) (ha:qao ids) (hR:qb2 G (ridx ids nx) ids R):
  Loc P o ρo (rnR (ridx ids nx) ids R) (List.range' nx c) (rnm (ridx ids nx) x) (rnL (ridx ids nx) W).reverse:=by
 intro nx' m M a hM hRd hF hr K Q hK
 obtain⟨vs,hrun,hlen,hv⟩:=qc7 hr ho hc hn
 have hl:=qbT hR
 have hkn: ∀b blk,b∈ids→G b=some blk→M.H.G b=some blk:=by
  intro b blk hb hg
  obtain⟨blk',hm⟩:=qlC (ρ:=ridx ids nx) hl hb
  have h1:=rnR_seen hR _ hm
  have h2:=hRd _ hm
  simp only at h1 h2
  rw [hg] at h1;cases h1
  rw [hM.G];exact h2
 have hh:Here M ids nx R c:=qfM hM.rel ha hR hkn fun b h1 h2 hb=>hF b (by simp [List.mem_range'_1];omega) hb
 obtain⟨e1,e2⟩:=qbB hw
 rw [qaC] at e1
 unfold Oper.wp
 rw [hrun]
 refine Calls.mono (h.calls hM.rel hh (by omega) fun i y v hy hv'=>?_) fun e w' ⟨M',e1,st,rel,hH,v,he,hv⟩=>?_
 ·have hlt:=qab hy
  have hx:=List.getElem?_eq_getElem (show i < zs.length by omega)
  exact(hv i _ v hx hv').wk (e2 i _ _ hx (qbD hy))
 ·subst e1 he
  exact hK v M' st rel hH hv
theorem PG.fits {ids:List Nat} {nx:Nat} {G:Nat→Option IBlk} (h:PG P f args R c x W) (hR:qb2 G (ridx ids nx) ids R):
  FR.fitsG {x:=rnm (ridx ids nx) x,R:=rnR (ridx ids nx) ids R,F:=List.range' nx c,W:=(rnL (ridx ids nx) W).reverse} G nx:=by
 refine⟨rnR_seen hR,fun b hb=>?_,fun p hp=>?_⟩
 ·simp [List.mem_range'_1] at hb ⊢;omega
 ·simp only [List.mem_reverse] at hp
  obtain⟨q,hq,e⟩:=qcX hp
  have hl:=qbT hR
  rcases Nat.lt_or_ge q.1 R.length with h1 | h1
  ·obtain⟨_,_,hm⟩:=seen_mem hR h1
   rw [e]
   exact .inr (qlC hl hm)
  ·have:=(h.hW.low q hq).1
   refine .inl ?_
   rw [e,qb6 (by omega)]
   simp [List.mem_range'_1];omega
end
def qfH (P:Program) (c:FuncId) (zs:List IV) (G:Nat→Option IBlk) (nx:Nat) (K:IV→Nat→List (Nat × IBlk)→List Nat→Prop):Prop:=
 ∃args R cnt x W ids,PG P c args R cnt x W∧(rnms (ridx ids nx) args=zs∧qao ids∧qb2 G (ridx ids nx) ids R)∧K (rnm (ridx ids nx) x) cnt (rnL (ridx ids nx) W) ids
theorem qkV {c:FuncId} {zs zs':List IV} {G:Nat→Option IBlk} {nx:Nat} {K:IV→Nat→List (Nat × IBlk)→List Nat→Prop} (h:zs=zs'):qfH P c zs G nx K=qfH P c zs' G nx K:=by rw [h]
attribute [congr] qkV
theorem qaB {c:FuncId} {zs:List IV} {G:Nat→Option IBlk} {nx:Nat} {K:IV→Nat→List (Nat × IBlk)→List Nat→Prop} {args:List IV} {R:List IBlk} {cnt:Nat} {x:IV} {W:List (Nat × IBlk)} (ids:List Nat)
  (hp:PG P c args R cnt x W) (h1:rnms (ridx ids nx) args=zs∧qao ids∧qb2 G (ridx ids nx) ids R) (h2:K (rnm (ridx ids nx) x) cnt (rnL (ridx ids nx) W) ids):qfH P c zs G nx K:=⟨args,R,cnt,x,W,ids,hp,h1,h2⟩
def qjI (P:Program) (c:FuncId) (zs:List IV) (G:Nat→Option IBlk) (nx:Nat) (K:List PanicEntry→List (Nat × IBlk)→Prop):Prop:=
 ∃args R ch Wp ids,PX P c args R ch Wp∧(rnms (ridx ids nx) args=zs∧qao ids∧qb2 G (ridx ids nx) ids R)∧ ∀W,Wp W→K ch (rnL (ridx ids nx) W)
theorem qjJ {c:FuncId} {zs zs':List IV} {G:Nat→Option IBlk} {nx:Nat} {K:List PanicEntry→List (Nat × IBlk)→Prop} (h:zs=zs'):qjI P c zs G nx K=qjI P c zs' G nx K:=by rw [h]
attribute [congr] qjJ
section
variable {Q:Exit→qaa→Prop} {k:List It} {all:Array Oper} {r:List Oper} {dst:Option Tmp} {ty:TypeId} {pos:String} {aft:Array Edge} {N:Nat} {s:List (Nat × IV)} {d:List IDef} {nx:Nat} {l:List (Nat × IBlk)}
 {g:Option (Nat × Bool)} {f:Operand} {args:List Operand} {ts:List TypeId} {K:qaa→List FP→Prop} {acc:List FP}
theorem at_g (n:Nat)
  (h:qap (qar (ev s) f args) (fun q=>(qam all s ⟨dst, .call {callee:= .value f,args:=⟨args⟩,argTypes:=⟨ts⟩},ty,pos,aft,g⟩=some true∧fnOk P q.1=true∧dOk N dst=true)∧
   qfH P q.1 (qce P ts q.2) (look (l++h0.m)) nx fun x cnt W _=>vc P h0 Q n (.ops all r::k) ⟨N,putS dst x s,d,nx+cnt,W++l⟩) False):
  IRun P h0 (.ops all (⟨dst, .call {callee:= .value f,args:=⟨args⟩,argTypes:=⟨ts⟩},ty,pos,aft,g⟩::r)::k) ⟨N,s,d,nx,l⟩ Q:=by
 cases hc:qar (ev s) f args with
 | none=>rw [hc] at h;exact h.elim
 | some q=>
   rw [hc,qaj] at h
   obtain⟨⟨h1,h2,h3⟩,args',R,cnt,x,W,ids,p1,⟨p2,p3,p4⟩,p5⟩:=h
   have hw:wks q.2 (rnms (ridx ids nx) args'):=by rw [p2];exact qcT ts q.2
   refine iops_call (S:=⟨N,s,d,nx,l⟩) rfl h1 hc h2 (by cases dst<;>simp_all [dOk,qay]) ((qeD (p1.icall (hp:=⟨nx,l++h0.m⟩) p3 p4) hw).mono ?_)
   rintro e nx' l' ⟨rfl,rfl,rfl⟩
   simp only [qaJ]
   exact vc_sound Q n _ _ p5
theorem qes
  (h:qap (qar (ev s) f args) (fun q=>(qam all s ⟨dst, .call {callee:= .value f,args:=⟨args⟩,argTypes:=⟨ts⟩},ty,pos,aft,g⟩=some true∧fnOk P q.1=true∧dOk N dst=true)∧
   qfH P q.1 (qce P ts q.2) (look (l++h0.m)) nx fun x cnt W ids=>dvc P h0 all K r ⟨N,putS dst x s,d,nx+cnt,W++l⟩ (acc++ [(ids,W.reverse.map (·.1))])) False):
  DRun P h0 all (⟨dst, .call {callee:= .value f,args:=⟨args⟩,argTypes:=⟨ts⟩},ty,pos,aft,g⟩::r) ⟨N,s,d,nx,l⟩ acc K:=by
 cases hc:qar (ev s) f args with
 | none=>rw [hc] at h;exact h.elim
 | some q=>
   rw [hc,qaj] at h
   obtain⟨⟨h1,h2,h3⟩,args',R,cnt,x,W,ids,p1,⟨p2,p3,p4⟩,p5⟩:=h
   have hw:wks q.2 (rnms (ridx ids nx) args'):=by rw [p2];exact qcT ts q.2
   obtain⟨frs,S',g1,g2⟩:=dvc_sound _ _ _ p5
   refine⟨{x:=rnm (ridx ids nx) x,R:=rnR (ridx ids nx) ids R,F:=List.range' nx cnt,W:=(rnL (ridx ids nx) W).reverse}::frs,S', .op (S:=⟨N,s,d,nx,l⟩) h1 (p1.loc rfl hc h2 hw p3 p4) (p1.fits p4) h3 ?_,?_⟩
   ·simpa using g1
   ·simpa [FR.fp,qkp (qbT p4)] using g2
end
/-! ### how they are proved -/
def rsel (k:Nat) (news:List Nat) (i:Nat):Nat:=if i < k then i else news.getD (i - k) 0
mutual
def fzv (keep:Nat→Bool) (G:Nat→Option IBlk):IV→IV→Prop
 | .agg xs, .agg ys=>fzvs keep G xs ys
 | .tup xs, .tup ys=>fzvs keep G xs ys
 | .ref b g o l, .ref b' g' o' l'=>b=b'∧g=g'∧o=o'∧l=l'
 | .ptr b g r j, .ptr b' g' r' j'=>b=b'∧g=g'∧r=r'∧j=j'
 | .mp b, .mp b'=>b=b'
 | .dead, .dead=>True
 | .clo f xs cs, .clo f' ys ds=>f=f'∧fzvs keep G xs ys∧fzvs keep G cs ds
 | .ref b g o l,y=>keep b=false∧frz G (.ref b g o l)=some y
 | .ptr b g r j,y=>keep b=false∧frz G (.ptr b g r j)=some y
 | .p a,y=>wk (.p a) y
 | _,_=>False
def fzvs (keep:Nat→Bool) (G:Nat→Option IBlk):List IV→List IV→Prop
 | [], []=>True
 | x::xs,y::ys=>fzv keep G x y∧fzvs keep G xs ys
 | _,_=>False
end
theorem qcS {keep:Nat→Bool} {G:Nat→Option IBlk}: ∀ {xs ys:List IV},fzvs keep G xs ys→ys.length=xs.length∧ ∀(i:Nat) (x y:IV),xs[i]? =some x→ys[i]? =some y→fzv keep G x y
 | [], [],_=>by simp
 | x::xs,y::ys,h=>by
   simp only [fzvs] at h
   obtain⟨l1,l2⟩:=qcS h.2
   refine⟨by simp [l1],fun i a b ha hb=>?_⟩
   cases i with
   | zero=>simp at ha hb;subst ha hb;exact h.1
   | succ i=>exact l2 i a b (by simpa using ha) (by simpa using hb)
 | [],_::_,h=>by simp [fzvs] at h
 | _::_, [],h=>by simp [fzvs] at h
theorem qjU {keep:Nat→Bool} {G:Nat→Option IBlk} {ids:List Nat} (x:IV): ∀y,fzv keep G x y→(∀b∈refs x,keep b=false→b∈ids)→Fz G ids x y:=by
 apply IV.rec (motive_1:=fun x=> ∀y,fzv keep G x y→(∀b∈refs x,keep b=false→b∈ids)→Fz G ids x y)
  (motive_2:=fun l=> ∀x∈l,∀y,fzv keep G x y→(∀b∈refs x,keep b=false→b∈ids)→Fz G ids x y)
 ·intro x y h _;simp only [fzv] at h;exact wk_fz _ _ h
 ·intro b g off len y h hr
  have aux:keep b=false∧frz G (.ref b g off len)=some y→Fz G ids (.ref b g off len) y:=fun⟨h1,h2⟩=>(qfb _ y ids h2 fun c hc=>by simp only [refs,List.mem_singleton] at hc;subst hc;exact hr c (by simp [refs]) h1).1
  cases y<;>simp only [fzv] at h
  case ref=>obtain⟨rfl,rfl,rfl,rfl⟩:=h;exact .refl _
  all_goals exact aux h
 ·intro b g r j y h hr
  have aux:keep b=false∧frz G (.ptr b g r j)=some y→Fz G ids (.ptr b g r j) y:=fun⟨h1,h2⟩=>(qfb _ y ids h2 fun c hc=>by simp only [refs,List.mem_singleton] at hc;subst hc;exact hr c (by simp [refs]) h1).1
  cases y<;>simp only [fzv] at h
  case ptr=>obtain⟨rfl,rfl,rfl,rfl⟩:=h;exact .refl _
  all_goals exact aux h
 ·intro b y h _
  cases y<;>simp only [fzv] at h
  subst h
  exact .refl _
 ·intro fn f c i1 i2 y h hr
  cases y<;>simp only [fzv] at h
  obtain⟨rfl,h1,h2⟩:=h
  obtain⟨l1,k1⟩:=qcS h1
  obtain⟨l2,k2⟩:=qcS h2
  simp only [refs,List.mem_append] at hr
  exact .clo fn f _ c _ l1 l2 (fun i a b ha hb=>i1 a (List.mem_of_getElem? ha) b (k1 i a b ha hb) fun c hc=>hr c (.inl (refss_get ha c hc)))
   (fun i a b ha hb=>i2 a (List.mem_of_getElem? ha) b (k2 i a b ha hb) fun c hc=>hr c (.inr (refss_get ha c hc)))
 ·intro cs ih y h hr
  cases y<;>simp only [fzv] at h
  obtain⟨l1,k1⟩:=qcS h
  exact .agg cs _ l1 fun i a b ha hb=>ih a (List.mem_of_getElem? ha) b (k1 i a b ha hb) fun c hc=>hr c (refss_get ha c hc)
 ·intro cs ih y h hr
  cases y<;>simp only [fzv] at h
  obtain⟨l1,k1⟩:=qcS h
  exact .tup cs _ l1 fun i a b ha hb=>ih a (List.mem_of_getElem? ha) b (k1 i a b ha hb) fun c hc=>hr c (refss_get ha c hc)
 ·intro y h _;cases y<;>simp only [fzv] at h;exact .refl _
 ·intro x hx;cases hx
 ·intro x l i1 i2 z hz
  rcases List.mem_cons.1 hz with rfl | hz
  ·exact i1
  ·exact i2 z hz
theorem fzv_refl {keep:Nat→Bool} {G:Nat→Option IBlk} (x:IV):fzv keep G x x:=by
 apply IV.rec (motive_1:=fun x=>fzv keep G x x) (motive_2:=fun l=>fzvs keep G l l)
 ·intro x;simp only [fzv];exact wk_refl _
 ·intro b g off len;simp only [fzv,and_self]
 ·intro b g r j;simp only [fzv,and_self]
 ·intro b;simp only [fzv]
 ·intro fn f c i1 i2;simp only [fzv];exact⟨trivial,i1,i2⟩
 ·intro cs ih;simp only [fzv];exact ih
 ·intro cs ih;simp only [fzv];exact ih
 ·simp only [fzv]
 ·simp only [fzvs]
 ·intro x l i1 i2;simp only [fzvs];exact⟨i1,i2⟩
theorem qh2 {keep:Nat→Bool} {G:Nat→Option IBlk}: ∀l:List IV,fzvs keep G l l
 | []=>by simp only [fzvs]
 | x::r=>by simp only [fzvs];exact⟨fzv_refl x,qh2 r⟩
def fzRs (keep:Nat→Bool) (G:Nat→Option IBlk):List (List IV)→List (List IV)→Prop
 | [], []=>True
 | r::rs,r'::rs'=>fzvs keep G r r'∧fzRs keep G rs rs'
 | _,_=>False
theorem qaw {keep:Nat→Bool} {G:Nat→Option IBlk}: ∀l:List (List IV),fzRs keep G l l
 | []=>trivial
 | x::r=>⟨qh2 x,qaw r⟩
theorem qjT {keep:Nat→Bool} {G:Nat→Option IBlk}: ∀ {xs ys:List (List IV)},fzRs keep G xs ys→ys.length=xs.length∧ ∀(i:Nat) (x y:List IV),xs[i]? =some x→ys[i]? =some y→fzvs keep G x y
 | [], [],_=>by simp
 | x::xs,y::ys,h=>by
   obtain⟨l1,l2⟩:=qjT h.2
   refine⟨by simp [l1],fun i a b ha hb=>?_⟩
   cases i with
   | zero=>simp at ha hb;subst ha hb;exact h.1
   | succ i=>exact l2 i a b (by simpa using ha) (by simpa using hb)
 | [],_::_,h=>h.elim
 | _::_, [],h=>h.elim
def fzEs (keep:Nat→Bool) (G:Nat→Option IBlk):List (Value × IV)→List (Value × IV)→Prop
 | [], []=>True
 | r::rs,r'::rs'=>(r.1=r'.1∧fzv keep G r.2 r'.2)∧fzEs keep G rs rs'
 | _,_=>False
theorem qfd {keep:Nat→Bool} {G:Nat→Option IBlk}: ∀l:List (Value × IV),fzEs keep G l l
 | []=>trivial
 | x::r=>⟨⟨rfl,fzv_refl x.2⟩,qfd r⟩
theorem qjS {keep:Nat→Bool} {G:Nat→Option IBlk}: ∀ {xs ys:List (Value × IV)},fzEs keep G xs ys→ys.length=xs.length∧ ∀(i:Nat) (x y:Value × IV),xs[i]? =some x→ys[i]? =some y→x.1=y.1∧fzv keep G x.2 y.2
 | [], [],_=>by simp
 | x::xs,y::ys,h=>by
   obtain⟨l1,l2⟩:=qjS h.2
   refine⟨by simp [l1],fun i a b ha hb=>?_⟩
   cases i with
   | zero=>simp at ha hb;subst ha hb;exact h.1
   | succ i=>exact l2 i a b (by simpa using ha) (by simpa using hb)
 | [],_::_,h=>h.elim
 | _::_, [],h=>h.elim
def fzB (keep:Nat→Bool) (G:Nat→Option IBlk):IBlk→IBlk→Prop
 | .arr sz g rows, .arr sz' g' rows'=>sz=sz'∧g=g'∧fzRs keep G rows rows'
 | .mp es, .mp es'=>fzEs keep G es es'
 | .ob k vs, .ob k' vs'=>k'=k∧vs'=vs
 | _,_=>False
theorem fzB_Fz {keep:Nat→Bool} {G:Nat→Option IBlk} {ids:List Nat} {x y:IBlk} (h:fzB keep G x y) (hi: ∀b∈qd6 x,keep b=false→b∈ids):FzB G ids x y:=by
 cases x with
 | arr sz g rows=>
   cases y with
   | arr sz' g' rows'=>
     obtain⟨rfl,rfl,h⟩:=h
     obtain⟨h1,h2⟩:=qjT h
     refine⟨rfl,rfl,h1,fun i row row' hr hr'=>?_⟩
     obtain⟨l1,l2⟩:=qcS (h2 i row row' hr hr')
     refine⟨l1,fun j a b ha hb=>qjU a b (l2 j a b ha hb) fun c hc=>hi c ?_⟩
     simp only [qd6,List.mem_flatMap]
     exact⟨row,List.mem_of_getElem? hr,refss_get ha c hc⟩
   | mp es=>exact h.elim
   | ob k vs=>exact h.elim
 | ob k vs=>
   cases y with
   | arr sz' g' rows'=>exact h.elim
   | mp es=>exact h.elim
   | ob k' vs'=>exact h
 | mp es=>
   cases y with
   | arr sz' g' rows'=>exact h.elim
   | ob k vs=>exact h.elim
   | mp es'=>
     obtain⟨h1,h2⟩:=qjS h
     refine⟨h1,fun i k k' x y hx hy=>?_⟩
     obtain⟨e1,e2⟩:=h2 i _ _ hx hy
     refine⟨e1.symm,qjU x y e2 fun c hc=>hi c ?_⟩
     simp only [qd6,List.mem_flatMap]
     exact⟨_,List.mem_of_getElem? hx,hc⟩
def qf2 (keep:Nat→Bool) (G:Nat→Option IBlk):List (Nat × IBlk)→Prop
 | []=>True
 | p::r=>qap (G p.1) (fun blk=>fzB keep G blk p.2) False∧qf2 keep G r
theorem qim {keep:Nat→Bool} {G:Nat→Option IBlk}: ∀ {W:List (Nat × IBlk)},qf2 keep G W→ ∀p∈W,∃blk,G p.1=some blk∧fzB keep G blk p.2
 | [],_,p,hp=>by cases hp
 | q::r,h,p,hp=>by
   rcases List.mem_cons.1 hp with rfl | hp
   ·have:=h.1
    cases hg:G p.1 with
    | none=>rw [hg] at this;exact this.elim
    | some blk=>rw [hg] at this;exact⟨blk,rfl,this⟩
   ·exact qim h.2 p hp
def memB (b:Nat):List Nat→Bool
 | []=>false
 | c::r=>if b=c then true else memB b r
theorem memB_of {b:Nat}: ∀ {l:List Nat},b∈l→memB b l=true
 | c::r,h=>by
   unfold memB
   split
   ·rfl
   ·rename_i e;exact memB_of ((List.mem_cons.1 h).resolve_left e)
def keepB (k:Nat) (news:List Nat) (b:Nat):Bool:=if b < k then true else memB b news
theorem qme {k:Nat} {m:List (Nat × IBlk)} {S:qaa} {z y:IV} {V:List (Nat × IBlk)} {news:List Nat} (hd:S.d= []) (hnx:k≤S.nx) (hk:qca k (V.map (·.1)) (S.l.map (·.1)))
  (hs:qf2 (keepB k news) (look (S.l++m)) V) (hV: ∀p∈V,keepB k news p.1=true) (hf:fzv (keepB k news) (look (S.l++m)) z y): ∃ids,qb9 ⟨k,m⟩ ids S z y S.nx V:=by
 have hs':=qim hs
 let all:List Nat:=refs z++V.flatMap fun p=>match look (S.l++m) p.1 with | some blk=>qd6 blk | none=> []
 have hids: ∀b,b∈all→keepB k news b=false→b∈all.filter fun b=>!keepB k news b:=fun b h1 h2=>List.mem_filter.2 ⟨h1,by simp [h2]⟩
 refine⟨all.filter fun b=>!keepB k news b,⟨rfl,rfl, .inl hd,hnx,Nat.le_refl _,by simp,fun p hp=>?_,fun p hp=>?_,fun b hb=>?_⟩,qjU z y hf fun b hb hkb=>hids b (List.mem_append_left _ hb) hkb, .inl rfl⟩
 ·obtain⟨blk,h1,h2⟩:=hs' p hp
  refine⟨blk,h1,fzB_Fz h2 fun b hb hkb=>hids b (List.mem_append_right _ (List.mem_flatMap.2 ⟨p,hp,?_⟩)) hkb, .inl rfl⟩
  rw [h1];exact hb
 ·rcases allIn_mem hk _ (List.mem_map_of_mem hp) with h3 | h3
  ·exact .inl h3
  ·obtain⟨q,hq,e⟩:=List.mem_map.1 h3
   exact .inr ⟨q.2,by rw [←e];exact hq⟩
 ·have hkb:=(List.mem_filter.1 hb).2
  simp only [Bool.not_eq_true'] at hkb
  refine⟨?_,fun p hp e=>?_⟩
  ·rcases Nat.lt_or_ge b k with h | h
   ·exfalso
    rw [keepB,if_pos h] at hkb
    cases hkb
   ·exact h
  ·have:=hV p hp
   rw [e,hkb] at this;cases this
def hasAll (W:List (Nat × IBlk)) (k:Nat):Nat→Prop
 | 0=>True
 | c+1=>(look W (k+c)).isSome=true∧hasAll W k c
theorem qgX {W:List (Nat × IBlk)} {k:Nat}: ∀ {c:Nat},hasAll W k c→ ∀i,k≤i→i < k+c→qaI W i
 | 0,_,i,h1,h2=>by omega
 | c+1,h,i,h1,h2=>by
   by_cases e:i=k+c
   ·subst e;exact Option.isSome_iff_exists.1 h.1
   ·exact qgX h.2 i h1 (by omega)
def endG (P:Program) (fn:Func) (k:Nat) (m:List (Nat × IBlk)) (c:Nat) (x:IV) (W:List (Nat × IBlk)) (news:List Nat) (S:qaa):Prop:=
 qap (ires P S (S.l++m) fn.results.toList) (fun z=>fzv (keepB k news) (look (S.l++m)) z (rnm (rsel k news) x)) False∧
  qf2 (keepB k news) (look (S.l++m)) (rnL (rsel k news) W)∧qca k ((rnL (rsel k news) W).map (·.1)) (S.l.map (·.1))
def EndG (P:Program) (fn:Func) (k:Nat) (m:List (Nat × IBlk)) (c:Nat) (x:IV) (W:List (Nat × IBlk)):Exit→qaa→Prop
 | .normal,S=>S.d= []∧k≤S.nx∧ ∃news,(news.length=c∧geAll k news∧qao news)∧endG P fn k m c x W news S
 | .ret,S=>S.d= []∧k≤S.nx∧ ∃news,(news.length=c∧geAll k news∧qao news)∧endG P fn k m c x W news S
 | _,_=>False
section
variable {fn:Func} {kk:Nat} {m:List (Nat × IBlk)} {c:Nat} {x:IV} {W:List (Nat × IBlk)} {Wp:List (Nat × IBlk)→Prop} {ch ch':List PanicEntry} {N:Nat} {s:List (Nat × IV)} {d:List IDef} {nx:Nat} {l:List (Nat × IBlk)}
@[go_sem ↓] theorem qjg:EndG P fn kk m 0 x W .normal ⟨N,s,d,nx,l⟩=(d= []∧kk≤nx∧endG P fn kk m 0 x W [] ⟨N,s,d,nx,l⟩):=by
  simp only [EndG,List.length_eq_zero_iff,eq_iff_iff]
  constructor
  ·rintro⟨h1,h2,_,⟨rfl,_,_⟩,h3⟩;exact⟨h1,h2,h3⟩
  ·rintro⟨h1,h2,h3⟩;exact⟨h1,h2, [],⟨rfl,trivial,trivial⟩,h3⟩
@[go_sem ↓] theorem EndG_ret0:EndG P fn kk m 0 x W .ret ⟨N,s,d,nx,l⟩=(d= []∧kk≤nx∧endG P fn kk m 0 x W [] ⟨N,s,d,nx,l⟩):=qjg
@[go_sem ↓] theorem EndG_ret:EndG P fn kk m (c+1) x W .ret ⟨N,s,d,nx,l⟩=(d= []∧kk≤nx∧ ∃news,(news.length=c+1∧geAll kk news∧qao news)∧endG P fn kk m (c+1) x W news ⟨N,s,d,nx,l⟩):=(rfl)
@[go_sem ↓] theorem qli {news:List Nat}:endG P fn kk m c x W news ⟨N,s,d,nx,l⟩=
  (qap (ires P ⟨N,s,d,nx,l⟩ (l++m) fn.results.toList) (fun z=>fzv (keepB kk news) (look (l++m)) z (rnm (rsel kk news) x)) False∧
  qf2 (keepB kk news) (look (l++m)) (rnL (rsel kk news) W)∧qca kk ((rnL (rsel kk news) W).map (·.1)) (l.map (·.1))):=(rfl)
end
theorem qnu {k c:Nat} {news:List Nat} (hl:news.length=c) {i:Nat} (hi:i < k+c):keepB k news (rsel k news i)=true:=by
 unfold rsel keepB
 split
 ·rfl
 ·rename_i h
  rw [List.getD_eq_getElem?_getD,List.getElem?_eq_getElem (show i - k < news.length by omega)]
  split
  ·rfl
  ·exact memB_of (List.getElem_mem _)
theorem qmx {k c:Nat} {news:List Nat} (hl:news.length=c) (hg:geAll k news) (ha:qao news):qi1 k c (rsel k news):=by
 have hnew: ∀i,¬i < k→ ∀h:i - k < news.length,rsel k news i=news[i - k]:=by
  intro i h h'
  unfold rsel
  rw [if_neg h,List.getD_eq_getElem?_getD,List.getElem?_eq_getElem h'];rfl
 refine⟨fun i hi=>if_pos hi,fun i h1 h2=>?_,fun i j hi hj e=>?_⟩
 ·rw [hnew i (by omega) (by omega)];exact geAll_mem hg _ (List.getElem_mem _)
 ·by_cases h1:i < k<;>by_cases h2:j < k
  ·rw [rsel,if_pos h1,rsel,if_pos h2] at e;exact e
  ·rw [hnew j h2 (by omega),rsel,if_pos h1] at e
   have:=geAll_mem hg _ (List.getElem_mem (show j - k < news.length by omega));omega
  ·rw [hnew i h1 (by omega),rsel,if_pos h2] at e
   have:=geAll_mem hg _ (List.getElem_mem (show i - k < news.length by omega));omega
  ·rw [hnew i h1 (by omega),hnew j h2 (by omega)] at e
   have:=qer ha _ _ (by omega) (by omega) e
   omega
section
variable {f:FuncId} {fn:Func} {code:Code} {args:List IV} {R:List IBlk} {c:Nat} {x:IV} {W:List (Nat × IBlk)} {ch:List PanicEntry} {Wp:List (Nat × IBlk)→Prop}
def qd4 (n:Nat):List IBlk→Prop
 | []=>True
 | b::r=>qa4 n b∧qd4 n r
theorem allBel_mem {n:Nat}: ∀ {R:List IBlk},qd4 n R→ ∀b∈R,qa4 n b
 | [],_,b,hb=>by cases hb
 | c::r,h,b,hb=>by rcases List.mem_cons.1 hb with rfl | hb;exact h.1;exact allBel_mem h.2 b hb
theorem endG_fin {k:Nat} {m:List (Nat × IBlk)} {S:qaa} (e:Exit) (he:e= .normal∨e= .ret) (hW: ∀p∈W,p.1 < k+c) (hd:S.d= []) (hnx:k≤S.nx) {news:List Nat} (hn:news.length=c∧geAll k news∧qao news)
  (h:endG P fn k m c x W news S):qfF P fn ⟨k,m⟩ (fun r _ l=> ∃σ,qi1 k c σ∧r= .ret (rnm σ x)∧l=rnL σ W) e S:=by
 obtain⟨h1,h2,h3⟩:=h
 cases hi:ires P S (S.l++m) fn.results.toList with
 | none=>rw [hi] at h1;exact h1.elim
 | some z=>
   rw [hi,qaj] at h1
   obtain⟨ids,hl⟩:=qme hd hnx h3 h2 (fun p hp=>by obtain⟨q,hq,e⟩:=qcX hp;rw [e];exact qnu hn.1 (hW q hq)) h1
   have hq:=qmx hn.1 hn.2.1 hn.2.2
   rcases he with rfl | rfl
   ·exact .norm S z _ ids _ _ hd hi hl ⟨_,hq,rfl,rfl⟩
   ·exact .ret S z _ ids _ _ hd hi hl ⟨_,hq,rfl,rfl⟩
theorem qba (n:Nat) (hf:P.funcs[f]? =some fn) (hb:fn.body=some code) (hn:args.length≤fn.ntmps) (k:Nat) (hk:R.length=k)
  (ha:bels k args) (hR:qd4 k R) (hW:qbs (k+c) W) (hA:hasAll W k c) (hx:bel (k+c) x)
  (hc:isms args→vc P ⟨k,qai 0 R⟩ (EndG P fn k (qai 0 R) c x W) n [.code code] ⟨fn.ntmps,enum 0 args, [],k, []⟩):PG P f args R c x W:=by
 subst hk
 have hWl: ∀p∈W,p.1 < R.length+c∧qa4 (R.length+c) p.2:=fun p hp=>qdf hW p hp
 refine⟨qb7 ha,fun b hb=>qdK (allBel_mem hR b hb),⟨fun p hp=>⟨(hWl p hp).1,qdK (hWl p hp).2⟩,qgX hA⟩,qcM x hx,?_⟩
 intro M vs hM hl hr
 have hs:isms args:=qef fun i x hx=>(hr i x _ hx (List.getElem?_eq_getElem (by have:=qab hx;omega))).small
 refine icall_of hf hb hn (qbi.mono (vc_sound _ _ _ _ (hc hs)) fun e S he=>?_) M vs hM hl hr
 cases e with
 | normal=>obtain⟨h1,h2,news,h3,h4⟩:=he;exact endG_fin _ (.inl rfl) (fun p hp=>(hWl p hp).1) h1 h2 h3 h4
 | ret=>obtain⟨h1,h2,news,h3,h4⟩:=he;exact endG_fin _ (.inr rfl) (fun p hp=>(hWl p hp).1) h1 h2 h3 h4
 | exit id=>exact he.elim
 | goto l=>exact he.elim
 | panic ch=>exact he.elim
 | outgrown=>exact he.elim
/-! ### a call that answers, or panics -/
inductive Oc where
 | ok (c:Nat) (x:IV) (W:List (Nat × IBlk))
 | pan
end
/-! ### rules -/
section
variable {ρ:Nat→Nat} {keep:Nat→Bool} {G:Nat→Option IBlk}
def rnRw (ρ:Nat→Nat) (rows:List (List IV)):List (List IV):=rows.map (rnms ρ)
@[go_sem] theorem qpy {sz g:Nat} {rows:List (List IV)}:rnB ρ (.arr sz g rows)= .arr sz g (rnRw ρ rows):=(rfl)
@[go_sem] theorem rnRw_nil:rnRw ρ []= []:=(rfl)
@[go_sem] theorem qns {r:List IV} {rs:List (List IV)}:rnRw ρ (r::rs)=rnms ρ r::rnRw ρ rs:=(rfl)
theorem qnt (ρ:Nat→Nat): ∀l:List PV,rnms ρ (l.map .p)=l.map .p
 | []=>rfl
 | x::r=>by simp only [List.map_cons,rnms,rnm,qnt ρ r]
@[go_sem] theorem qpA {α:Type} {f:α→List PV} {l:List α}:rnRw ρ (ir f l)=ir f l:=by
  unfold rnRw ir
  rw [List.map_map]
  exact List.map_congr_left fun a _=>qnt ρ _
@[go_sem] theorem rnRw_app {rs us:List (List IV)}:rnRw ρ (rs++us)=rnRw ρ rs++rnRw ρ us:=List.map_append
@[go_sem] theorem rnL_nil:rnL ρ []= []:=(rfl)
@[go_sem] theorem qow {p:Nat × IBlk} {r:List (Nat × IBlk)}:rnL ρ (p::r)=(ρ p.1,rnB ρ p.2)::rnL ρ r:=(rfl)
@[go_sem] theorem ridx_nil {nx i:Nat}:ridx [] nx i=nx+i:=(rfl)
@[go_sem] theorem ridx_zero {b nx:Nat} {r:List Nat}:ridx (b::r) nx 0=b:=(rfl)
@[go_sem] theorem ridx_1 {b nx:Nat} {r:List Nat}:ridx (b::r) nx 1=ridx r nx 0:=(rfl)
@[go_sem] theorem ridx_2 {b nx:Nat} {r:List Nat}:ridx (b::r) nx 2=ridx r nx 1:=(rfl)
@[go_sem] theorem fzRs_self {rs:List (List IV)}:fzRs keep G rs rs=True:=eq_true (qaw rs)
@[go_sem] theorem fzRs_cons {r r':List IV} {rs rs':List (List IV)}:fzRs keep G (r::rs) (r'::rs')=(fzvs keep G r r'∧fzRs keep G rs rs'):=(rfl)
end
attribute [go_sem] qbs keepB memB rnm rnms qb2 qao qao.nin qai rsel fzv fzvs fzB qf2 hasAll qd4
end Go.Idl
