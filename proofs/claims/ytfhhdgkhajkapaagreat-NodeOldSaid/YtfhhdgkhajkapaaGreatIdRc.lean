/- Facts that the proofs of this claim lean on. -/
import Derived.Test.YtfhhdgkhajkapaaGreatIdRn
set_option linter.unusedSimpArgs false
set_option linter.unusedVariables false
/-
 Contracts with blocks: how they are proved on the walk, and used there.
-/
namespace Go.Idl
variable {P:Program} {h0:IH}
theorem qdG {n:Nat} (x:IV):bel n x→qbc (· < n) x:=by
 apply IV.rec (motive_1:=fun x=>bel n x→qbc (· < n) x) (motive_2:=fun l=>bels n l→qaN (· < n) l)
 ·intro x _;trivial
 ·intro b g off len h;exact h
 ·intro b g r j h;exact h
 ·intro b h;exact h
 ·intro fn f c i1 i2 h;exact⟨i1 h.1,i2 h.2⟩
 ·intro cs ih h;exact ih h
 ·intro cs ih h;exact ih h
 ·intro _;trivial
 ·intro _;trivial
 ·intro x l i1 i2 h;exact⟨i1 h.1,i2 h.2⟩
theorem qbB {n:Nat}: ∀ {l:List IV},bels n l→qaN (· < n) l
 | [],_=>trivial
 | x::r,h=>⟨qdG x h.1,qbB h.2⟩
theorem qcM {n:Nat} {b:IBlk} (h:qbk n b):qbu (· < n) b:=by
 cases b with
 | arr sz g rows=>exact fun row hr=>qbB (h row hr)
 | mp es=>exact fun e he=>qdG _ (h e he)
 | ob k vs=>exact qbB h
theorem qe3 {f:FuncId} {args args':List IV} {h:IH} {Q:IEnd→Nat→List (Nat × IBlk)→Prop} (hc:qa5 P f args' h Q) (hw:wks args args'):qa5 P f args h Q:=by
 intro M vs hM hl hr
 obtain⟨e1,e2⟩:=qca hw
 refine hc M vs hM (by omega) fun i y v hy hv=>?_
 have hlt:=qab hy
 have hx:=List.getElem?_eq_getElem (show i < args.length by omega)
 exact(hr i _ v hx hv).wk (e2 i _ y hx hy)
structure PG (P:Program) (f:FuncId) (args:List IV) (R:List IBlk) (c:Nat) (x:IV) (W:List (Nat × IBlk)):Prop where
 hzs:qaN (· < R.length) args
 hin: ∀blk∈R,qbu (· < R.length) blk
 hW:WOk R.length c W
 hx:qbc (· < R.length+c) x
 call:qa5 P f args ⟨R.length,qbH 0 R⟩ fun r _ l=> ∃σ,qha R.length c σ∧r= .ret (rnm σ x)∧l=rnL σ W
structure PX (P:Program) (f:FuncId) (args:List IV) (R:List IBlk) (ch:List PanicEntry) (Wp:List (Nat × IBlk)→Prop):Prop where
 hzs:qaN (· < R.length) args
 hin: ∀blk∈R,qbu (· < R.length) blk
 call:qa5 P f args ⟨R.length,qbH 0 R⟩ fun r _ l=>r= .pan ch∧Wp l∧ ∀p∈l,p.1 < R.length∧qbu (· < R.length) p.2
def ridx:List Nat→Nat→Nat→Nat
 | [],nx,i=>nx+i
 | b::_,_,0=>b
 | _::r,nx,i+1=>ridx r nx i
theorem qdX: ∀ {ids:List Nat} {nx i:Nat} (h:i < ids.length),ridx ids nx i=ids[i]
 | b::r,nx,0,_=>rfl
 | b::r,nx,i+1,h=>by simpa [ridx] using qdX (ids:=r) (nx:=nx) (by simpa using h)
theorem qdb: ∀ {ids:List Nat} {nx i:Nat},ids.length≤i→ridx ids nx i=nx+(i - ids.length)
 | [],nx,i,_=>by simp [ridx]
 | b::r,nx,0,h=>by simp at h
 | b::r,nx,i+1,h=>by
   have:=qdb (ids:=r) (nx:=nx) (i:=i) (by simpa using h)
   rw [ridx,this,List.length_cons];congr 1;omega
def qb2 (G:Nat→Option IBlk) (ρ:Nat→Nat):List Nat→List IBlk→Prop
 | [], []=>True
 | b::r,blk::R=>G b=some (rnB ρ blk)∧qb2 G ρ r R
 | _,_=>False
theorem qbZ {G:Nat→Option IBlk} {ρ:Nat→Nat}: ∀ {ids:List Nat} {R:List IBlk},qb2 G ρ ids R→ids.length=R.length
 | [], [],_=>rfl
 | _::_,_::_,h=>by simp [qbZ h.2]
 | [],_::_,h=>h.elim
 | _::_, [],h=>h.elim
theorem qf3 {G:Nat→Option IBlk} {ρ:Nat→Nat}: ∀ {ids:List Nat} {R:List IBlk},qb2 G ρ ids R→ ∀(i b:Nat) (blk:IBlk),ids[i]? =some b→R[i]? =some blk→G b=some (rnB ρ blk)
 | [], [],_,i,b,blk,h,_=>by simp at h
 | _::_,_::_,h,0,b,blk,h1,h2=>by simp at h1 h2;subst h1 h2;exact h.1
 | _::_,_::_,h,i+1,b,blk,h1,h2=>qf3 h.2 i b blk (by simpa using h1) (by simpa using h2)
 | [],_::_,h,_,_,_,_,_=>h.elim
 | _::_, [],h,_,_,_,_,_=>h.elim
def qau:List Nat→Prop
 | []=>True
 | b::r=>nin b r∧qau r
where nin (b:Nat):List Nat→Prop
 | []=>True
 | c::r=> ¬b=c∧nin b r
theorem qiV {b:Nat}: ∀ {r:List Nat},qau.nin b r→b ∉ r
 | [],_=>by simp
 | c::r,h=>by simp only [List.mem_cons,not_or];exact⟨h.1,qiV h.2⟩
theorem qeP: ∀ {ids:List Nat},qau ids→ ∀(i j:Nat) (hi:i < ids.length) (hj:j < ids.length),ids[i]=ids[j]→i=j
 | [],_,i,j,hi,_,_=>by simp at hi
 | b::r,h,0,0,_,_,_=>rfl
 | b::r,h,0,j+1,hi,hj,e=>by exact absurd (by simp only [List.getElem_cons_zero,List.getElem_cons_succ] at e;rw [e];exact List.getElem_mem _) (qiV h.1)
 | b::r,h,i+1,0,hi,hj,e=>by exact absurd (by simp only [List.getElem_cons_zero,List.getElem_cons_succ] at e;rw [←e];exact List.getElem_mem _) (qiV h.1)
 | b::r,h,i+1,j+1,hi,hj,e=>by rw [qeP h.2 i j (by simpa using hi) (by simpa using hj) (by simpa using e)]
structure Here (M:Mem) (ids:List Nat) (nx:Nat) (R:List IBlk) (c:Nat):Prop where
 inj: ∀i j,i < R.length+c→j < R.length+c→ridx ids nx i=ridx ids nx j→i=j
 seen: ∀i blk,R[i]? =some blk→M.H.G (ridx ids nx i)=some (rnB (ridx ids nx) blk)
 new: ∀j,R.length≤j→j < R.length+c→ ¬M.H.A (ridx ids nx j)
theorem qgf {M:Mem} (hM:MRel M) {G:Nat→Option IBlk} {ids:List Nat} {nx c:Nat} {R:List IBlk} (ha:qau ids) (hR:qb2 G (ridx ids nx) ids R)
  (hG: ∀b blk,b∈ids→G b=some blk→M.H.G b=some blk) (hF: ∀b,nx≤b→b < nx+c→ ¬M.H.A b):Here M ids nx R c:=by
 have hl:=qbZ hR
 have hget: ∀i blk,R[i]? =some blk→M.H.G (ridx ids nx i)=some (rnB (ridx ids nx) blk):=by
  intro i blk hb
  have hi:i < ids.length:=by have:=qab hb;omega
  rw [qdX hi]
  exact hG _ _ (List.getElem_mem hi) (qf3 hR i _ blk (List.getElem?_eq_getElem hi) hb)
 have hnew: ∀j,R.length≤j→j < R.length+c→ ¬M.H.A (ridx ids nx j):=by
  intro j h1 h2
  rw [qdb (by omega)]
  exact hF _ (by omega) (by omega)
 refine⟨fun i j hi hj e=>?_,hget,hnew⟩
 have hold: ∀i,i < R.length→M.H.A (ridx ids nx i):=fun i hi=>hM.dom _ _ (hget i _ (List.getElem?_eq_getElem hi))
 rcases Nat.lt_or_ge i R.length with h1 | h1<;>rcases Nat.lt_or_ge j R.length with h2 | h2
 ·rw [qdX (by omega),qdX (by omega)] at e
  exact qeP ha i j (by omega) (by omega) e
 ·exact absurd (e ▸hold i h1) (hnew j h2 hj)
 ·exact absurd (e ▸hold j h2) (hnew i h1 hi)
 ·rw [qdb (by omega),qdb (by omega)] at e
  omega
section
variable {f:FuncId} {args:List IV} {R:List IBlk} {c:Nat} {x:IV} {W:List (Nat × IBlk)} {ch:List PanicEntry} {Wp:List (Nat × IBlk)→Prop}
theorem PG.calls (h:PG P f args R c x W) {M:Mem} (hM:MRel M) {ids:List Nat} {nx:Nat} (hh:Here M ids nx R c) {vs:List Value} (hlen:vs.length=args.length)
  (hv: ∀(i:Nat) (y:IV) (v:Value),args[i]? =some y→vs[i]? =some v→VRel M (rnm (ridx ids nx) y) v):
  Calls P f ⟨vs⟩ M.w fun e w'=> ∃M',M'.w=w'∧qae M M'∧MRel M'∧M'.H=M.H.upd (rnL (ridx ids nx) W).reverse∧ ∃v,e= .returned v∧VRel M' (rnm (ridx ids nx) x) v:=by
 refine(qk2 (Ψ:=fun r0 V=>r0= .ret x∧V=W) hh.inj h.hin h.hzs (h.call.mono fun r n l ⟨σ,h1,h2,h3⟩=>⟨σ, .ret x,W,h1,h.hW,h3,?_,?_,rfl,rfl⟩) hM hh.seen hh.new hlen hv).mono ?_
 ·intro M e he;rw [h2] at he;exact he
 ·intro z hz;cases hz;exact h.hx
 ·rintro e w' ⟨M',r0,V,e1,st,rel,hH,he,_,rfl,rfl⟩
  exact⟨M',e1,st,rel,hH,he⟩
theorem PX.calls (h:PX P f args R ch Wp) {M:Mem} (hM:MRel M) {ids:List Nat} {nx:Nat} (hh:Here M ids nx R 0) {vs:List Value} (hlen:vs.length=args.length)
  (hv: ∀(i:Nat) (y:IV) (v:Value),args[i]? =some y→vs[i]? =some v→VRel M (rnm (ridx ids nx) y) v):
  Calls P f ⟨vs⟩ M.w fun e w'=> ∃M' W,M'.w=w'∧qae M M'∧MRel M'∧M'.H=M.H.upd (rnL (ridx ids nx) W).reverse∧e= .panicked ch∧Wp W∧ ∀p∈W,p.1 < R.length:=by
 refine(qk2 (c:=0) (Ψ:=fun r0 V=>r0= .pan ch∧Wp V) hh.inj h.hin h.hzs (h.call.mono fun r n l ⟨h1,h2,h3⟩=>⟨id, .pan ch,l,⟨fun i _=>rfl,fun i a b=>a,fun i j _ _ e=>e⟩,⟨h3,fun i a b=>absurd b (by omega)⟩,?_,?_,?_,rfl,h2⟩) hM hh.seen hh.new hlen hv).mono ?_
 ·exact((List.map_congr_left fun p _=>by rw [qlM];rfl).trans (List.map_id' _)).symm
 ·intro M e he;rw [h1] at he;exact he
 ·intro z hz;cases hz
 ·rintro e w' ⟨M',r0,V,e1,st,rel,hH,he,hV,rfl,hW⟩
  exact⟨M',V,e1,st,rel,hH,he,hW,fun p hp=>(hV.low p hp).1⟩
theorem qdd {ρ:Nat→Nat} {W:List (Nat × IBlk)} {p:Nat × IBlk} (h:p∈rnL ρ W): ∃q∈W,p.1=ρ q.1:=by
 obtain⟨q,hq,e⟩:=List.mem_map.1 h
 exact⟨q,hq,by rw [←e]⟩
theorem qgX {nx m nx':_} {M M':Mem} (hM:HRel nx m M) (rel:MRel M') (hnx:nx≤nx') {V:List (Nat × IBlk)} (hH:M'.H=M.H.upd V.reverse) (hV: ∀p∈V,p.1 < nx'):HRel nx' (V++m) M':=by
 refine⟨rel,fun b hb=>?_,fun b=>?_⟩
 ·rw [hH,qir] at hb
  rcases hb with hb | ⟨blk,hb⟩
  ·exact Nat.lt_of_lt_of_le (hM.A b hb) hnx
  ·exact hV _ (by simpa using hb)
 ·rw [hH,qgy,List.reverse_reverse,qad,hM.G]
  cases look V b<;>rfl
theorem seen_mem {G:Nat→Option IBlk} {ids:List Nat} {nx:Nat} (hR:qb2 G (ridx ids nx) ids R) {i:Nat} (hi:i < R.length): ∃blk,G (ridx ids nx i)=some blk∧ridx ids nx i∈ids:=by
 have hl:=qbZ hR
 rw [qdX (by omega)]
 exact⟨_,qf3 hR i _ _ (List.getElem?_eq_getElem (by omega)) (List.getElem?_eq_getElem hi),List.getElem_mem _⟩
theorem PG.icall (h:PG P f args R c x W) {hp:IH} {ids:List Nat} (ha:qau ids) (hR:qb2 (look hp.m) (ridx ids hp.nx) ids R):
  qa5 P f (rnms (ridx ids hp.nx) args) hp fun r nx l=>r= .ret (rnm (ridx ids hp.nx) x)∧nx=hp.nx+c∧l=rnL (ridx ids hp.nx) W:=by
 intro M vs hM hl hr
 have hh:Here M ids hp.nx R c:=qgf hM.rel ha hR (fun b blk _ hb=>by rw [hM.G];exact hb) (fun b h1 _ hb=>by have:=hM.A b hb;omega)
 refine(h.calls hM.rel hh (by rw [hl,qaL]) fun i y v hy hv=>hr i _ v (qbV hy) hv).mono ?_
 rintro e w' ⟨M',e1,st,rel,hH,he⟩
 refine⟨M',hp.nx+c,rnL (ridx ids hp.nx) W, .ret (rnm (ridx ids hp.nx) x),e1,st,qgX hM rel (by omega) hH fun p hp'=>?_,he,rfl,rfl,rfl⟩
 obtain⟨q,hq,e⟩:=qdd hp'
 rw [e]
 rcases Nat.lt_or_ge q.1 R.length with h1 | h1
 ·obtain⟨blk,hb,_⟩:=seen_mem hR h1
  have:=hM.A _ (hM.rel.dom _ blk (by rw [hM.G];exact hb))
  omega
 ·have:=(h.hW.low q hq).1
  rw [qdb (by rw [qbZ hR];exact h1),qbZ hR]
  omega
theorem PX.icall (h:PX P f args R ch Wp) {hp:IH} {ids:List Nat} (ha:qau ids) (hR:qb2 (look hp.m) (ridx ids hp.nx) ids R):
  qa5 P f (rnms (ridx ids hp.nx) args) hp fun r nx l=>r= .pan ch∧nx=hp.nx∧ ∃W,Wp W∧l=rnL (ridx ids hp.nx) W:=by
 intro M vs hM hl hr
 have hh:Here M ids hp.nx R 0:=qgf hM.rel ha hR (fun b blk _ hb=>by rw [hM.G];exact hb) (fun b h1 _ hb=>by have:=hM.A b hb;omega)
 refine(h.calls hM.rel hh (by rw [hl,qaL]) fun i y v hy hv=>hr i _ v (qbV hy) hv).mono ?_
 rintro e w' ⟨M',W,e1,st,rel,hH,rfl,hW,hk⟩
 refine⟨M',hp.nx,rnL (ridx ids hp.nx) W, .pan ch,e1,st,qgX hM rel (Nat.le_refl _) hH fun p hp'=>?_,rfl,rfl,rfl,W,hW,rfl⟩
 obtain⟨q,hq,e⟩:=qdd hp'
 rw [e]
 obtain⟨blk,hb,_⟩:=seen_mem hR (hk q hq)
 exact hM.A _ (hM.rel.dom _ blk (by rw [hM.G];exact hb))
def rnR (ρ:Nat→Nat) (ids:List Nat) (R:List IBlk):List (Nat × IBlk):=ids.zip (R.map (rnB ρ))
theorem rnR_seen {G:Nat→Option IBlk} {ρ:Nat→Nat}: ∀ {ids:List Nat} {R:List IBlk},qb2 G ρ ids R→ ∀p∈rnR ρ ids R,G p.1=some p.2
 | [], [],_,p,hp=>by simp [rnR] at hp
 | b::r,blk::R,h,p,hp=>by
   simp only [rnR,List.map_cons,List.zip_cons_cons,List.mem_cons] at hp
   rcases hp with rfl | hp
   ·exact h.1
   ·exact rnR_seen h.2 p hp
 | [],_::_,h,_,_=>h.elim
 | _::_, [],h,_,_=>h.elim
theorem qlN {ρ:Nat→Nat} {ids:List Nat} {R:List IBlk} (h:ids.length=R.length):(rnR ρ ids R).map (·.1)=ids:=by
 unfold rnR
 rw [List.map_fst_zip];simp [h]
theorem qnK {ρ:Nat→Nat} {ids:List Nat} {R:List IBlk} (h:ids.length=R.length) {b:Nat} (hb:b∈ids): ∃blk,(b,blk)∈rnR ρ ids R:=by
 rw [←qlN (ρ:=ρ) h] at hb
 obtain⟨p,hp,e⟩:=List.mem_map.1 hb
 exact⟨p.2,by rw [←e];exact hp⟩
theorem PG.loc {o:Oper} {ρo:Operand→Option IV} {g:Operand} {asl:List Operand} {ts:Array TypeId} {zs:List IV} {ids:List Nat} {nx:Nat} {G:Nat→Option IBlk} (h:PG P f args R c x W)
  (ho:o.op= .call {callee:= .value g,args:=⟨asl⟩,argTypes:=ts}) (hc:qas ρo g asl=some (f,zs)) (hn:fnOk P f=true) (hw:wks zs (rnms (ridx ids nx) args)) (ha:qau ids) (hR:qb2 G (ridx ids nx) ids R):
  Loc P o ρo (rnR (ridx ids nx) ids R) (List.range' nx c) (rnm (ridx ids nx) x) (rnL (ridx ids nx) W).reverse:=by
 intro nx' m M a hM hRd hF hr K Q hK
 obtain⟨vs,hrun,hlen,hv⟩:=qed hr ho hc hn
 have hl:=qbZ hR
 have hkn: ∀b blk,b∈ids→G b=some blk→M.H.G b=some blk:=by
  intro b blk hb hg
  obtain⟨blk',hm⟩:=qnK (ρ:=ridx ids nx) hl hb
  have h1:=rnR_seen hR _ hm
  have h2:=hRd _ hm
  simp only at h1 h2
  rw [hg] at h1;cases h1
  rw [hM.G];exact h2
 have hh:Here M ids nx R c:=qgf hM.rel ha hR hkn fun b h1 h2 hb=>hF b (by simp [List.mem_range'_1];omega) hb
 obtain⟨e1,e2⟩:=qca hw
 rw [qaL] at e1
 unfold Oper.wp
 rw [hrun]
 refine Calls.mono (h.calls hM.rel hh (by omega) fun i y v hy hv'=>?_) fun e w' ⟨M',e1,st,rel,hH,v,he,hv⟩=>?_
 ·have hlt:=qab hy
  have hx:=List.getElem?_eq_getElem (show i < zs.length by omega)
  exact(hv i _ v hx hv').wk (e2 i _ _ hx (qbV hy))
 ·subst e1 he
  exact hK v M' st rel hH hv
theorem PG.fits {ids:List Nat} {nx:Nat} {G:Nat→Option IBlk} (h:PG P f args R c x W) (hR:qb2 G (ridx ids nx) ids R):
  FR.fitsG {x:=rnm (ridx ids nx) x,R:=rnR (ridx ids nx) ids R,F:=List.range' nx c,W:=(rnL (ridx ids nx) W).reverse} G nx:=by
 refine⟨rnR_seen hR,fun b hb=>?_,fun p hp=>?_⟩
 ·simp [List.mem_range'_1] at hb ⊢;omega
 ·simp only [List.mem_reverse] at hp
  obtain⟨q,hq,e⟩:=qdd hp
  have hl:=qbZ hR
  rcases Nat.lt_or_ge q.1 R.length with h1 | h1
  ·obtain⟨_,_,hm⟩:=seen_mem hR h1
   rw [e]
   exact .inr (qnK hl hm)
  ·have:=(h.hW.low q hq).1
   refine .inl ?_
   rw [e,qdb (by omega)]
   simp [List.mem_range'_1];omega
end
def qga (P:Program) (c:FuncId) (zs:List IV) (G:Nat→Option IBlk) (nx:Nat) (K:IV→Nat→List (Nat × IBlk)→List Nat→Prop):Prop:=
 ∃args R cnt x W ids,PG P c args R cnt x W∧(rnms (ridx ids nx) args=zs∧qau ids∧qb2 G (ridx ids nx) ids R)∧K (rnm (ridx ids nx) x) cnt (rnL (ridx ids nx) W) ids
theorem qm1 {c:FuncId} {zs zs':List IV} {G:Nat→Option IBlk} {nx:Nat} {K:IV→Nat→List (Nat × IBlk)→List Nat→Prop} (h:zs=zs'):qga P c zs G nx K=qga P c zs' G nx K:=by rw [h]
attribute [congr] qm1
theorem callG_of {c:FuncId} {zs:List IV} {G:Nat→Option IBlk} {nx:Nat} {K:IV→Nat→List (Nat × IBlk)→List Nat→Prop} {args:List IV} {R:List IBlk} {cnt:Nat} {x:IV} {W:List (Nat × IBlk)} (ids:List Nat)
  (hp:PG P c args R cnt x W) (h1:rnms (ridx ids nx) args=zs∧qau ids∧qb2 G (ridx ids nx) ids R) (h2:K (rnm (ridx ids nx) x) cnt (rnL (ridx ids nx) W) ids):qga P c zs G nx K:=⟨args,R,cnt,x,W,ids,hp,h1,h2⟩
def qes (P:Program) (c:FuncId) (zs:List IV) (G:Nat→Option IBlk) (nx:Nat) (K:List PanicEntry→List (Nat × IBlk)→Prop):Prop:=
 ∃args R ch Wp ids,PX P c args R ch Wp∧(rnms (ridx ids nx) args=zs∧qau ids∧qb2 G (ridx ids nx) ids R)∧ ∀W,Wp W→K ch (rnL (ridx ids nx) W)
theorem qk1 {c:FuncId} {zs zs':List IV} {G:Nat→Option IBlk} {nx:Nat} {K:List PanicEntry→List (Nat × IBlk)→Prop} (h:zs=zs'):qes P c zs G nx K=qes P c zs' G nx K:=by rw [h]
attribute [congr] qk1
theorem qax {c:FuncId} {zs:List IV} {G:Nat→Option IBlk} {nx:Nat} {K:List PanicEntry→List (Nat × IBlk)→Prop} {args:List IV} {R:List IBlk} {ch:List PanicEntry} {Wp:List (Nat × IBlk)→Prop} (ids:List Nat)
  (hp:PX P c args R ch Wp) (h1:rnms (ridx ids nx) args=zs∧qau ids∧qb2 G (ridx ids nx) ids R) (h2: ∀W,Wp W→K ch (rnL (ridx ids nx) W)):qes P c zs G nx K:=⟨args,R,ch,Wp,ids,hp,h1,h2⟩
section
variable {Q:Exit→qaa→Prop} {k:List It} {all:Array Oper} {r:List Oper} {dst:Option Tmp} {ty:TypeId} {pos:String} {aft:Array Edge} {N:Nat} {s:List (Nat × IV)} {d:List IDef} {nx:Nat} {l:List (Nat × IBlk)}
 {g:Option (Nat × Bool)} {f:Operand} {args:List Operand} {ts:List TypeId} {K:qaa→List FP→Prop} {acc:List FP}
theorem at_g (n:Nat)
  (h:qaq (qas (ev s) f args) (fun q=>(qai all s ⟨dst, .call {callee:= .value f,args:=⟨args⟩,argTypes:=⟨ts⟩},ty,pos,aft,g⟩=some true∧fnOk P q.1=true∧dOk N dst=true)∧
   qga P q.1 (qbI P ts q.2) (look (l++h0.m)) nx fun x cnt W _=>vc P h0 Q n (.ops all r::k) ⟨N,putS dst x s,d,nx+cnt,W++l⟩) False):
  IRun P h0 (.ops all (⟨dst, .call {callee:= .value f,args:=⟨args⟩,argTypes:=⟨ts⟩},ty,pos,aft,g⟩::r)::k) ⟨N,s,d,nx,l⟩ Q:=by
 cases hc:qas (ev s) f args with
 | none=>rw [hc] at h;exact h.elim
 | some q=>
   rw [hc,qaj] at h
   obtain⟨⟨h1,h2,h3⟩,args',R,cnt,x,W,ids,p1,⟨p2,p3,p4⟩,p5⟩:=h
   have hw:wks q.2 (rnms (ridx ids nx) args'):=by rw [p2];exact qcD ts q.2
   refine iops_call (S:=⟨N,s,d,nx,l⟩) rfl h1 hc h2 (by cases dst<;>simp_all [dOk,qaE]) ((qe3 (p1.icall (hp:=⟨nx,l++h0.m⟩) p3 p4) hw).mono ?_)
   rintro e nx' l' ⟨rfl,rfl,rfl⟩
   simp only [qaT]
   exact vc_sound Q n _ _ p5
theorem at_x
  (h:qaq (qas (ev s) f args) (fun q=>(qai all s ⟨dst, .call {callee:= .value f,args:=⟨args⟩,argTypes:=⟨ts⟩},ty,pos,aft,g⟩=some true∧fnOk P q.1=true∧dOk N dst=true)∧
   qes P q.1 (qbI P ts q.2) (look (l++h0.m)) nx fun ch W=>Q (.panic ch) ⟨N,s,d,nx,W++l⟩) False):
  IRun P h0 (.ops all (⟨dst, .call {callee:= .value f,args:=⟨args⟩,argTypes:=⟨ts⟩},ty,pos,aft,g⟩::r)::k) ⟨N,s,d,nx,l⟩ Q:=by
 cases hc:qas (ev s) f args with
 | none=>rw [hc] at h;exact h.elim
 | some q=>
   rw [hc,qaj] at h
   obtain⟨⟨h1,h2,h3⟩,args',R,ch,Wp,ids,p1,⟨p2,p3,p4⟩,p5⟩:=h
   have hw:wks q.2 (rnms (ridx ids nx) args'):=by rw [p2];exact qcD ts q.2
   refine iops_call (S:=⟨N,s,d,nx,l⟩) rfl h1 hc h2 (by cases dst<;>simp_all [dOk,qaE]) ((qe3 (p1.icall (hp:=⟨nx,l++h0.m⟩) p3 p4) hw).mono ?_)
   rintro e nx' l' ⟨rfl,rfl,W,hW,rfl⟩
   exact qcL (p5 _ hW)
theorem qaM
  (h:qaq (qas (ev s) f args) (fun q=>(qai all s ⟨dst, .call {callee:= .value f,args:=⟨args⟩,argTypes:=⟨ts⟩},ty,pos,aft,g⟩=some true∧fnOk P q.1=true∧dOk N dst=true)∧
   qga P q.1 (qbI P ts q.2) (look (l++h0.m)) nx fun x cnt W ids=>dvc P h0 all K r ⟨N,putS dst x s,d,nx+cnt,W++l⟩ (acc++ [(ids,W.reverse.map (·.1))])) False):
  DRun P h0 all (⟨dst, .call {callee:= .value f,args:=⟨args⟩,argTypes:=⟨ts⟩},ty,pos,aft,g⟩::r) ⟨N,s,d,nx,l⟩ acc K:=by
 cases hc:qas (ev s) f args with
 | none=>rw [hc] at h;exact h.elim
 | some q=>
   rw [hc,qaj] at h
   obtain⟨⟨h1,h2,h3⟩,args',R,cnt,x,W,ids,p1,⟨p2,p3,p4⟩,p5⟩:=h
   have hw:wks q.2 (rnms (ridx ids nx) args'):=by rw [p2];exact qcD ts q.2
   obtain⟨frs,S',g1,g2⟩:=dvc_sound _ _ _ p5
   refine⟨{x:=rnm (ridx ids nx) x,R:=rnR (ridx ids nx) ids R,F:=List.range' nx cnt,W:=(rnL (ridx ids nx) W).reverse}::frs,S', .op (S:=⟨N,s,d,nx,l⟩) h1 (p1.loc rfl hc h2 hw p3 p4) (p1.fits p4) h3 ?_,?_⟩
   ·simpa using g1
   ·simpa [FR.fp,qlN (qbZ p4)] using g2
end
/-! ### how they are proved -/
def rsel (k:Nat) (news:List Nat) (i:Nat):Nat:=if i < k then i else news.getD (i - k) 0
mutual
def fzv (keep:Nat→Bool) (G:Nat→Option IBlk):IV→IV→Prop
 | .agg xs, .agg ys=>fzvs keep G xs ys
 | .tup xs, .tup ys=>fzvs keep G xs ys
 | .ref b g o l, .ref b' g' o' l'=>b=b'∧g=g'∧o=o'∧l=l'
 | .ptr b g r j, .ptr b' g' r' j'=>b=b'∧g=g'∧r=r'∧j=j'
 | .mp b, .mp b'=>b=b'
 | .dead, .dead=>True
 | .clo f xs cs, .clo f' ys ds=>f=f'∧fzvs keep G xs ys∧fzvs keep G cs ds
 | .ref b g o l,y=>keep b=false∧frz G (.ref b g o l)=some y
 | .ptr b g r j,y=>keep b=false∧frz G (.ptr b g r j)=some y
 | .p a,y=>wk (.p a) y
 | _,_=>False
def fzvs (keep:Nat→Bool) (G:Nat→Option IBlk):List IV→List IV→Prop
 | [], []=>True
 | x::xs,y::ys=>fzv keep G x y∧fzvs keep G xs ys
 | _,_=>False
end
theorem qc8 {keep:Nat→Bool} {G:Nat→Option IBlk}: ∀ {xs ys:List IV},fzvs keep G xs ys→ys.length=xs.length∧ ∀(i:Nat) (x y:IV),xs[i]? =some x→ys[i]? =some y→fzv keep G x y
 | [], [],_=>by simp
 | x::xs,y::ys,h=>by
   simp only [fzvs] at h
   obtain⟨l1,l2⟩:=qc8 h.2
   refine⟨by simp [l1],fun i a b ha hb=>?_⟩
   cases i with
   | zero=>simp at ha hb;subst ha hb;exact h.1
   | succ i=>exact l2 i a b (by simpa using ha) (by simpa using hb)
 | [],_::_,h=>by simp [fzvs] at h
 | _::_, [],h=>by simp [fzvs] at h
theorem qlf {keep:Nat→Bool} {G:Nat→Option IBlk} {ids:List Nat} (x:IV): ∀y,fzv keep G x y→(∀b∈refs x,keep b=false→b∈ids)→Fz G ids x y:=by
 apply IV.rec (motive_1:=fun x=> ∀y,fzv keep G x y→(∀b∈refs x,keep b=false→b∈ids)→Fz G ids x y)
  (motive_2:=fun l=> ∀x∈l,∀y,fzv keep G x y→(∀b∈refs x,keep b=false→b∈ids)→Fz G ids x y)
 ·intro x y h _;simp only [fzv] at h;exact wk_fz _ _ h
 ·intro b g off len y h hr
  have aux:keep b=false∧frz G (.ref b g off len)=some y→Fz G ids (.ref b g off len) y:=fun⟨h1,h2⟩=>(qfF _ y ids h2 fun c hc=>by simp only [refs,List.mem_singleton] at hc;subst hc;exact hr c (by simp [refs]) h1).1
  cases y<;>simp only [fzv] at h
  case ref=>obtain⟨rfl,rfl,rfl,rfl⟩:=h;exact .refl _
  all_goals exact aux h
 ·intro b g r j y h hr
  have aux:keep b=false∧frz G (.ptr b g r j)=some y→Fz G ids (.ptr b g r j) y:=fun⟨h1,h2⟩=>(qfF _ y ids h2 fun c hc=>by simp only [refs,List.mem_singleton] at hc;subst hc;exact hr c (by simp [refs]) h1).1
  cases y<;>simp only [fzv] at h
  case ptr=>obtain⟨rfl,rfl,rfl,rfl⟩:=h;exact .refl _
  all_goals exact aux h
 ·intro b y h _
  cases y<;>simp only [fzv] at h
  subst h
  exact .refl _
 ·intro fn f c i1 i2 y h hr
  cases y<;>simp only [fzv] at h
  obtain⟨rfl,h1,h2⟩:=h
  obtain⟨l1,k1⟩:=qc8 h1
  obtain⟨l2,k2⟩:=qc8 h2
  simp only [refs,List.mem_append] at hr
  exact .clo fn f _ c _ l1 l2 (fun i a b ha hb=>i1 a (List.mem_of_getElem? ha) b (k1 i a b ha hb) fun c hc=>hr c (.inl (refss_get ha c hc)))
   (fun i a b ha hb=>i2 a (List.mem_of_getElem? ha) b (k2 i a b ha hb) fun c hc=>hr c (.inr (refss_get ha c hc)))
 ·intro cs ih y h hr
  cases y<;>simp only [fzv] at h
  obtain⟨l1,k1⟩:=qc8 h
  exact .agg cs _ l1 fun i a b ha hb=>ih a (List.mem_of_getElem? ha) b (k1 i a b ha hb) fun c hc=>hr c (refss_get ha c hc)
 ·intro cs ih y h hr
  cases y<;>simp only [fzv] at h
  obtain⟨l1,k1⟩:=qc8 h
  exact .tup cs _ l1 fun i a b ha hb=>ih a (List.mem_of_getElem? ha) b (k1 i a b ha hb) fun c hc=>hr c (refss_get ha c hc)
 ·intro y h _;cases y<;>simp only [fzv] at h;exact .refl _
 ·intro x hx;cases hx
 ·intro x l i1 i2 z hz
  rcases List.mem_cons.1 hz with rfl | hz
  ·exact i1
  ·exact i2 z hz
theorem fzv_refl {keep:Nat→Bool} {G:Nat→Option IBlk} (x:IV):fzv keep G x x:=by
 apply IV.rec (motive_1:=fun x=>fzv keep G x x) (motive_2:=fun l=>fzvs keep G l l)
 ·intro x;simp only [fzv];exact wk_refl _
 ·intro b g off len;simp only [fzv,and_self]
 ·intro b g r j;simp only [fzv,and_self]
 ·intro b;simp only [fzv]
 ·intro fn f c i1 i2;simp only [fzv];exact⟨trivial,i1,i2⟩
 ·intro cs ih;simp only [fzv];exact ih
 ·intro cs ih;simp only [fzv];exact ih
 ·simp only [fzv]
 ·simp only [fzvs]
 ·intro x l i1 i2;simp only [fzvs];exact⟨i1,i2⟩
theorem qjj {keep:Nat→Bool} {G:Nat→Option IBlk}: ∀l:List IV,fzvs keep G l l
 | []=>by simp only [fzvs]
 | x::r=>by simp only [fzvs];exact⟨fzv_refl x,qjj r⟩
def fzRs (keep:Nat→Bool) (G:Nat→Option IBlk):List (List IV)→List (List IV)→Prop
 | [], []=>True
 | r::rs,r'::rs'=>fzvs keep G r r'∧fzRs keep G rs rs'
 | _,_=>False
theorem qaO {keep:Nat→Bool} {G:Nat→Option IBlk}: ∀l:List (List IV),fzRs keep G l l
 | []=>trivial
 | x::r=>⟨qjj x,qaO r⟩
theorem qle {keep:Nat→Bool} {G:Nat→Option IBlk}: ∀ {xs ys:List (List IV)},fzRs keep G xs ys→ys.length=xs.length∧ ∀(i:Nat) (x y:List IV),xs[i]? =some x→ys[i]? =some y→fzvs keep G x y
 | [], [],_=>by simp
 | x::xs,y::ys,h=>by
   obtain⟨l1,l2⟩:=qle h.2
   refine⟨by simp [l1],fun i a b ha hb=>?_⟩
   cases i with
   | zero=>simp at ha hb;subst ha hb;exact h.1
   | succ i=>exact l2 i a b (by simpa using ha) (by simpa using hb)
 | [],_::_,h=>h.elim
 | _::_, [],h=>h.elim
def fzEs (keep:Nat→Bool) (G:Nat→Option IBlk):List (Value × IV)→List (Value × IV)→Prop
 | [], []=>True
 | r::rs,r'::rs'=>(r.1=r'.1∧fzv keep G r.2 r'.2)∧fzEs keep G rs rs'
 | _,_=>False
theorem qld {keep:Nat→Bool} {G:Nat→Option IBlk}: ∀ {xs ys:List (Value × IV)},fzEs keep G xs ys→ys.length=xs.length∧ ∀(i:Nat) (x y:Value × IV),xs[i]? =some x→ys[i]? =some y→x.1=y.1∧fzv keep G x.2 y.2
 | [], [],_=>by simp
 | x::xs,y::ys,h=>by
   obtain⟨l1,l2⟩:=qld h.2
   refine⟨by simp [l1],fun i a b ha hb=>?_⟩
   cases i with
   | zero=>simp at ha hb;subst ha hb;exact h.1
   | succ i=>exact l2 i a b (by simpa using ha) (by simpa using hb)
 | [],_::_,h=>h.elim
 | _::_, [],h=>h.elim
def fzB (keep:Nat→Bool) (G:Nat→Option IBlk):IBlk→IBlk→Prop
 | .arr sz g rows, .arr sz' g' rows'=>sz=sz'∧g=g'∧fzRs keep G rows rows'
 | .mp es, .mp es'=>fzEs keep G es es'
 | .ob k vs, .ob k' vs'=>k'=k∧vs'=vs
 | _,_=>False
theorem fzB_Fz {keep:Nat→Bool} {G:Nat→Option IBlk} {ids:List Nat} {x y:IBlk} (h:fzB keep G x y) (hi: ∀b∈qer x,keep b=false→b∈ids):FzB G ids x y:=by
 cases x with
 | arr sz g rows=>
   cases y with
   | arr sz' g' rows'=>
     obtain⟨rfl,rfl,h⟩:=h
     obtain⟨h1,h2⟩:=qle h
     refine⟨rfl,rfl,h1,fun i row row' hr hr'=>?_⟩
     obtain⟨l1,l2⟩:=qc8 (h2 i row row' hr hr')
     refine⟨l1,fun j a b ha hb=>qlf a b (l2 j a b ha hb) fun c hc=>hi c ?_⟩
     simp only [qer,List.mem_flatMap]
     exact⟨row,List.mem_of_getElem? hr,refss_get ha c hc⟩
   | mp es=>exact h.elim
   | ob k vs=>exact h.elim
 | ob k vs=>
   cases y with
   | arr sz' g' rows'=>exact h.elim
   | mp es=>exact h.elim
   | ob k' vs'=>exact h
 | mp es=>
   cases y with
   | arr sz' g' rows'=>exact h.elim
   | ob k vs=>exact h.elim
   | mp es'=>
     obtain⟨h1,h2⟩:=qld h
     refine⟨h1,fun i k k' x y hx hy=>?_⟩
     obtain⟨e1,e2⟩:=h2 i _ _ hx hy
     refine⟨e1.symm,qlf x y e2 fun c hc=>hi c ?_⟩
     simp only [qer,List.mem_flatMap]
     exact⟨_,List.mem_of_getElem? hx,hc⟩
def qdF (keep:Nat→Bool) (G:Nat→Option IBlk):List (Nat × IBlk)→Prop
 | []=>True
 | p::r=>qaq (G p.1) (fun blk=>fzB keep G blk p.2) False∧qdF keep G r
theorem qjJ {keep:Nat→Bool} {G:Nat→Option IBlk}: ∀ {W:List (Nat × IBlk)},qdF keep G W→ ∀p∈W,∃blk,G p.1=some blk∧fzB keep G blk p.2
 | [],_,p,hp=>by cases hp
 | q::r,h,p,hp=>by
   rcases List.mem_cons.1 hp with rfl | hp
   ·have:=h.1
    cases hg:G p.1 with
    | none=>rw [hg] at this;exact this.elim
    | some blk=>rw [hg] at this;exact⟨blk,rfl,this⟩
   ·exact qjJ h.2 p hp
def memB (b:Nat):List Nat→Bool
 | []=>false
 | c::r=>if b=c then true else memB b r
theorem memB_of {b:Nat}: ∀ {l:List Nat},b∈l→memB b l=true
 | c::r,h=>by
   unfold memB
   split
   ·rfl
   ·rename_i e;exact memB_of ((List.mem_cons.1 h).resolve_left e)
def keepB (k:Nat) (news:List Nat) (b:Nat):Bool:=if b < k then true else memB b news
theorem qe8 {k:Nat} {m:List (Nat × IBlk)} {S:qaa} {z y:IV} {V:List (Nat × IBlk)} {news:List Nat} (hd:S.d= []) (hnx:k≤S.nx) (hk:qcX k (V.map (·.1)) (S.l.map (·.1)))
  (hs:qdF (keepB k news) (look (S.l++m)) V) (hV: ∀p∈V,keepB k news p.1=true) (hf:fzv (keepB k news) (look (S.l++m)) z y): ∃ids,qcl ⟨k,m⟩ ids S z y S.nx V:=by
 have hs':=qjJ hs
 let all:List Nat:=refs z++V.flatMap fun p=>match look (S.l++m) p.1 with | some blk=>qer blk | none=> []
 have hids: ∀b,b∈all→keepB k news b=false→b∈all.filter fun b=>!keepB k news b:=fun b h1 h2=>List.mem_filter.2 ⟨h1,by simp [h2]⟩
 refine⟨all.filter fun b=>!keepB k news b,⟨rfl,rfl, .inl hd,hnx,Nat.le_refl _,by simp,fun p hp=>?_,fun p hp=>?_,fun b hb=>?_⟩,qlf z y hf fun b hb hkb=>hids b (List.mem_append_left _ hb) hkb, .inl rfl⟩
 ·obtain⟨blk,h1,h2⟩:=hs' p hp
  refine⟨blk,h1,fzB_Fz h2 fun b hb hkb=>hids b (List.mem_append_right _ (List.mem_flatMap.2 ⟨p,hp,?_⟩)) hkb, .inl rfl⟩
  rw [h1];exact hb
 ·rcases allIn_mem hk _ (List.mem_map_of_mem hp) with h3 | h3
  ·exact .inl h3
  ·obtain⟨q,hq,e⟩:=List.mem_map.1 h3
   exact .inr ⟨q.2,by rw [←e];exact hq⟩
 ·have hkb:=(List.mem_filter.1 hb).2
  simp only [Bool.not_eq_true'] at hkb
  refine⟨?_,fun p hp e=>?_⟩
  ·rcases Nat.lt_or_ge b k with h | h
   ·exfalso
    rw [keepB,if_pos h] at hkb
    cases hkb
   ·exact h
  ·have:=hV p hp
   rw [e,hkb] at this;cases this
def hasAll (W:List (Nat × IBlk)) (k:Nat):Nat→Prop
 | 0=>True
 | c+1=>(look W (k+c)).isSome=true∧hasAll W k c
theorem qe1 {W:List (Nat × IBlk)} {k:Nat}: ∀ {c:Nat},hasAll W k c→ ∀i,k≤i→i < k+c→qaP W i
 | 0,_,i,h1,h2=>by omega
 | c+1,h,i,h1,h2=>by
   by_cases e:i=k+c
   ·subst e;exact Option.isSome_iff_exists.1 h.1
   ·exact qe1 h.2 i h1 (by omega)
def endG (P:Program) (fn:Func) (k:Nat) (m:List (Nat × IBlk)) (c:Nat) (x:IV) (W:List (Nat × IBlk)) (news:List Nat) (S:qaa):Prop:=
 qaq (ires P S (S.l++m) fn.results.toList) (fun z=>fzv (keepB k news) (look (S.l++m)) z (rnm (rsel k news) x)) False∧
  qdF (keepB k news) (look (S.l++m)) (rnL (rsel k news) W)∧qcX k ((rnL (rsel k news) W).map (·.1)) (S.l.map (·.1))
def EndG (P:Program) (fn:Func) (k:Nat) (m:List (Nat × IBlk)) (c:Nat) (x:IV) (W:List (Nat × IBlk)):Exit→qaa→Prop
 | .normal,S=>S.d= []∧k≤S.nx∧ ∃news,(news.length=c∧geAll k news∧qau news)∧endG P fn k m c x W news S
 | .ret,S=>S.d= []∧k≤S.nx∧ ∃news,(news.length=c∧geAll k news∧qau news)∧endG P fn k m c x W news S
 | _,_=>False
def EndXG (k:Nat) (m:List (Nat × IBlk)) (Wp:List (Nat × IBlk)→Prop) (ch:List PanicEntry):Exit→qaa→Prop
 | .panic c,S=>S.d= []∧c=ch∧k≤S.nx∧ ∃W,qcX k (W.map (·.1)) (S.l.map (·.1))∧qdF (keepB k []) (look (S.l++m)) W∧qdo k W∧Wp W
 | _,_=>False
section
variable {fn:Func} {kk:Nat} {m:List (Nat × IBlk)} {c:Nat} {x:IV} {W:List (Nat × IBlk)} {Wp:List (Nat × IBlk)→Prop} {ch ch':List PanicEntry} {N:Nat} {s:List (Nat × IV)} {d:List IDef} {nx:Nat} {l:List (Nat × IBlk)}
@[go_sem ↓] theorem qkk:EndG P fn kk m 0 x W .normal ⟨N,s,d,nx,l⟩=(d= []∧kk≤nx∧endG P fn kk m 0 x W [] ⟨N,s,d,nx,l⟩):=by
  simp only [EndG,List.length_eq_zero_iff,eq_iff_iff]
  constructor
  ·rintro⟨h1,h2,_,⟨rfl,_,_⟩,h3⟩;exact⟨h1,h2,h3⟩
  ·rintro⟨h1,h2,h3⟩;exact⟨h1,h2, [],⟨rfl,trivial,trivial⟩,h3⟩
@[go_sem ↓] theorem EndG_ret0:EndG P fn kk m 0 x W .ret ⟨N,s,d,nx,l⟩=(d= []∧kk≤nx∧endG P fn kk m 0 x W [] ⟨N,s,d,nx,l⟩):=qkk
@[go_sem ↓] theorem EndG_ret:EndG P fn kk m (c+1) x W .ret ⟨N,s,d,nx,l⟩=(d= []∧kk≤nx∧ ∃news,(news.length=c+1∧geAll kk news∧qau news)∧endG P fn kk m (c+1) x W news ⟨N,s,d,nx,l⟩):=(rfl)
@[go_sem ↓] theorem endG_eq {news:List Nat}:endG P fn kk m c x W news ⟨N,s,d,nx,l⟩=
  (qaq (ires P ⟨N,s,d,nx,l⟩ (l++m) fn.results.toList) (fun z=>fzv (keepB kk news) (look (l++m)) z (rnm (rsel kk news) x)) False∧
  qdF (keepB kk news) (look (l++m)) (rnL (rsel kk news) W)∧qcX kk ((rnL (rsel kk news) W).map (·.1)) (l.map (·.1))):=(rfl)
end
theorem qjF {k c:Nat} {news:List Nat} (hl:news.length=c) {i:Nat} (hi:i < k+c):keepB k news (rsel k news i)=true:=by
 unfold rsel keepB
 split
 ·rfl
 ·rename_i h
  rw [List.getD_eq_getElem?_getD,List.getElem?_eq_getElem (show i - k < news.length by omega)]
  split
  ·rfl
  ·exact memB_of (List.getElem_mem _)
theorem qim {k c:Nat} {news:List Nat} (hl:news.length=c) (hg:geAll k news) (ha:qau news):qha k c (rsel k news):=by
 have hnew: ∀i,¬i < k→ ∀h:i - k < news.length,rsel k news i=news[i - k]:=by
  intro i h h'
  unfold rsel
  rw [if_neg h,List.getD_eq_getElem?_getD,List.getElem?_eq_getElem h'];rfl
 refine⟨fun i hi=>if_pos hi,fun i h1 h2=>?_,fun i j hi hj e=>?_⟩
 ·rw [hnew i (by omega) (by omega)];exact geAll_mem hg _ (List.getElem_mem _)
 ·by_cases h1:i < k<;>by_cases h2:j < k
  ·rw [rsel,if_pos h1,rsel,if_pos h2] at e;exact e
  ·rw [hnew j h2 (by omega),rsel,if_pos h1] at e
   have:=geAll_mem hg _ (List.getElem_mem (show j - k < news.length by omega));omega
  ·rw [hnew i h1 (by omega),rsel,if_pos h2] at e
   have:=geAll_mem hg _ (List.getElem_mem (show i - k < news.length by omega));omega
  ·rw [hnew i h1 (by omega),hnew j h2 (by omega)] at e
   have:=qeP ha _ _ (by omega) (by omega) e
   omega
section
variable {f:FuncId} {fn:Func} {code:Code} {args:List IV} {R:List IBlk} {c:Nat} {x:IV} {W:List (Nat × IBlk)} {ch:List PanicEntry} {Wp:List (Nat × IBlk)→Prop}
def qeq (n:Nat):List IBlk→Prop
 | []=>True
 | b::r=>qbk n b∧qeq n r
theorem allBel_mem {n:Nat}: ∀ {R:List IBlk},qeq n R→ ∀b∈R,qbk n b
 | [],_,b,hb=>by cases hb
 | c::r,h,b,hb=>by rcases List.mem_cons.1 hb with rfl | hb;exact h.1;exact allBel_mem h.2 b hb
theorem endG_fin {k:Nat} {m:List (Nat × IBlk)} {S:qaa} (e:Exit) (he:e= .normal∨e= .ret) (hW: ∀p∈W,p.1 < k+c) (hd:S.d= []) (hnx:k≤S.nx) {news:List Nat} (hn:news.length=c∧geAll k news∧qau news)
  (h:endG P fn k m c x W news S):qeI P fn ⟨k,m⟩ (fun r _ l=> ∃σ,qha k c σ∧r= .ret (rnm σ x)∧l=rnL σ W) e S:=by
 obtain⟨h1,h2,h3⟩:=h
 cases hi:ires P S (S.l++m) fn.results.toList with
 | none=>rw [hi] at h1;exact h1.elim
 | some z=>
   rw [hi,qaj] at h1
   obtain⟨ids,hl⟩:=qe8 hd hnx h3 h2 (fun p hp=>by obtain⟨q,hq,e⟩:=qdd hp;rw [e];exact qjF hn.1 (hW q hq)) h1
   have hq:=qim hn.1 hn.2.1 hn.2.2
   rcases he with rfl | rfl
   ·exact .norm S z _ ids _ _ hd hi hl ⟨_,hq,rfl,rfl⟩
   ·exact .ret S z _ ids _ _ hd hi hl ⟨_,hq,rfl,rfl⟩
theorem qqn {k:Nat} {m:List (Nat × IBlk)} {S:qaa} (hd:S.d= []) (hnx:k≤S.nx) (hk:qcX k (W.map (·.1)) (S.l.map (·.1))) (hs:qdF (keepB k []) (look (S.l++m)) W) (hw:qdo k W) (hWp:Wp W):
  qeI P fn ⟨k,m⟩ (fun r _ l=>r= .pan ch∧Wp l∧ ∀p∈l,p.1 < k∧qbu (· < k) p.2) (.panic ch) S:=by
 obtain⟨ids,hl⟩:=qe8 (z:= .p .emp) (y:= .p .emp) (news:= []) hd hnx hk hs (fun p hp=>by simp [keepB,(qcm hw p hp).1]) (by simp only [fzv];exact wk_refl _)
 exact .pan S ch ids _ W hd hl.sub ⟨rfl,hWp,fun p hp=>⟨(qcm hw p hp).1,qcM (qcm hw p hp).2⟩⟩
theorem pg_of (n:Nat) (hf:P.funcs[f]? =some fn) (hb:fn.body=some code) (hn:args.length≤fn.ntmps) (k:Nat) (hk:R.length=k)
  (ha:bels k args) (hR:qeq k R) (hW:qdo (k+c) W) (hA:hasAll W k c) (hx:bel (k+c) x)
  (hc:isms args→vc P ⟨k,qbH 0 R⟩ (EndG P fn k (qbH 0 R) c x W) n [.code code] ⟨fn.ntmps,enum 0 args, [],k, []⟩):PG P f args R c x W:=by
 subst hk
 have hWl: ∀p∈W,p.1 < R.length+c∧qbk (R.length+c) p.2:=fun p hp=>qcm hW p hp
 refine⟨qbB ha,fun b hb=>qcM (allBel_mem hR b hb),⟨fun p hp=>⟨(hWl p hp).1,qcM (hWl p hp).2⟩,qe1 hA⟩,qdG x hx,?_⟩
 intro M vs hM hl hr
 have hs:isms args:=qc9 fun i x hx=>(hr i x _ hx (List.getElem?_eq_getElem (by have:=qab hx;omega))).small
 refine icall_of hf hb hn (qbd.mono (vc_sound _ _ _ _ (hc hs)) fun e S he=>?_) M vs hM hl hr
 cases e with
 | normal=>obtain⟨h1,h2,news,h3,h4⟩:=he;exact endG_fin _ (.inl rfl) (fun p hp=>(hWl p hp).1) h1 h2 h3 h4
 | ret=>obtain⟨h1,h2,news,h3,h4⟩:=he;exact endG_fin _ (.inr rfl) (fun p hp=>(hWl p hp).1) h1 h2 h3 h4
 | exit id=>exact he.elim
 | goto l=>exact he.elim
 | panic ch=>exact he.elim
 | outgrown=>exact he.elim
theorem px_of (n:Nat) (hf:P.funcs[f]? =some fn) (hb:fn.body=some code) (hn:args.length≤fn.ntmps) (k:Nat) (hk:R.length=k) (ha:bels k args) (hR:qeq k R)
  (hc:isms args→vc P ⟨k,qbH 0 R⟩ (EndXG k (qbH 0 R) Wp ch) n [.code code] ⟨fn.ntmps,enum 0 args, [],k, []⟩):PX P f args R ch Wp:=by
 subst hk
 refine⟨qbB ha,fun b hb=>qcM (allBel_mem hR b hb),?_⟩
 intro M vs hM hl hr
 have hs:isms args:=qc9 fun i x hx=>(hr i x _ hx (List.getElem?_eq_getElem (by have:=qab hx;omega))).small
 refine icall_of hf hb hn (qbd.mono (vc_sound _ _ _ _ (hc hs)) fun e S he=>?_) M vs hM hl hr
 cases e with
 | panic c=>
   obtain⟨e1,rfl,e2,W,e3,e4,e5,e6⟩:=he
   exact qqn e1 e2 e3 e4 e5 e6
 | normal=>exact he.elim
 | ret=>exact he.elim
 | exit id=>exact he.elim
 | goto l=>exact he.elim
 | outgrown=>exact he.elim
/-! ### a call that answers, or panics -/
inductive Oc where
 | ok (c:Nat) (x:IV) (W:List (Nat × IBlk))
 | pan
def PB (P:Program) (f:FuncId) (args:List IV) (R:List IBlk) (ch:List PanicEntry) (Wp:List (Nat × IBlk)→Prop):Oc→Prop
 | .ok c x W=>PG P f args R c x W
 | .pan=>PX P f args R ch Wp
end
/-! ### rules -/
section
variable {ρ:Nat→Nat} {keep:Nat→Bool} {G:Nat→Option IBlk}
def rnRw (ρ:Nat→Nat) (rows:List (List IV)):List (List IV):=rows.map (rnms ρ)
@[go_sem] theorem rnB_arr {sz g:Nat} {rows:List (List IV)}:rnB ρ (.arr sz g rows)= .arr sz g (rnRw ρ rows):=(rfl)
@[go_sem] theorem rnRw_nil:rnRw ρ []= []:=(rfl)
@[go_sem] theorem rnRw_cons {r:List IV} {rs:List (List IV)}:rnRw ρ (r::rs)=rnms ρ r::rnRw ρ rs:=(rfl)
theorem qpY (ρ:Nat→Nat): ∀l:List PV,rnms ρ (l.map .p)=l.map .p
 | []=>rfl
 | x::r=>by simp only [List.map_cons,rnms,rnm,qpY ρ r]
@[go_sem] theorem rnRw_ir {α:Type} {f:α→List PV} {l:List α}:rnRw ρ (ir f l)=ir f l:=by
  unfold rnRw ir
  rw [List.map_map]
  exact List.map_congr_left fun a _=>qpY ρ _
@[go_sem] theorem rnRw_app {rs us:List (List IV)}:rnRw ρ (rs++us)=rnRw ρ rs++rnRw ρ us:=List.map_append
@[go_sem] theorem rnL_nil:rnL ρ []= []:=(rfl)
@[go_sem] theorem rnL_cons {p:Nat × IBlk} {r:List (Nat × IBlk)}:rnL ρ (p::r)=(ρ p.1,rnB ρ p.2)::rnL ρ r:=(rfl)
@[go_sem] theorem ridx_nil {nx i:Nat}:ridx [] nx i=nx+i:=(rfl)
@[go_sem] theorem ridx_zero {b nx:Nat} {r:List Nat}:ridx (b::r) nx 0=b:=(rfl)
@[go_sem] theorem ridx_1 {b nx:Nat} {r:List Nat}:ridx (b::r) nx 1=ridx r nx 0:=(rfl)
@[go_sem] theorem ridx_2 {b nx:Nat} {r:List Nat}:ridx (b::r) nx 2=ridx r nx 1:=(rfl)
@[go_sem] theorem fzRs_self {rs:List (List IV)}:fzRs keep G rs rs=True:=eq_true (qaO rs)
@[go_sem] theorem fzRs_cons {r r':List IV} {rs rs':List (List IV)}:fzRs keep G (r::rs) (r'::rs')=(fzvs keep G r r'∧fzRs keep G rs rs'):=(rfl)
end
attribute [go_sem] qdo keepB memB rnm rnms qb2 qau qau.nin qbH rsel fzv fzvs fzB qdF hasAll qeq
end Go.Idl
/-
 Regions that draw their order, of which one call panics.
-/
namespace Go.Idl
variable {P:Program} {h0:IH} {B:Nat→Prop}
def qeO (P:Program) (h0:IH) (B:Nat→Prop) (Q:Exit→qaa→Prop) (all:Array Oper) (o:Oper) (S:qaa):Prop:=
 ∃f args ts q,o.op= .call {callee:= .value f,args:=⟨args⟩,argTypes:=⟨ts⟩}∧qas (ev S.s) f args=some q∧qai all S.s o=some true∧fnOk P q.1=true∧
  qes P q.1 (qbI P ts q.2) (look (S.l++h0.m)) S.nx fun ch W=> ∀nx',S.nx≤nx'→B nx'→Q (.panic ch) ⟨S.n, [],S.d,nx',W++S.l⟩
inductive qa3 (P:Program) (h0:IH) (B:Nat→Prop) (Q:Exit→qaa→Prop) (all:Array Oper):List Nat→List Oper→qaa→List FR→qaa→Prop where
 | nil (S:qaa):qa3 P h0 B Q all [] [] S [] S
 | live {n:Nat} {fl:List Nat} {o:Oper} {r:List Oper} {S S1 S':qaa} {fr:FR} {frs:List FR} (hn:n≠1∧n≠2) (h1:qaI P h0 all [o] S [fr] S1) (h:qa3 P h0 B Q all fl r S1 frs S'):
   qa3 P h0 B Q all (n::fl) (o::r) S (fr::frs) S'
 | dead {n:Nat} {fl:List Nat} {o:Oper} {r:List Oper} {S S':qaa} {frs:List FR} (hn:n=1∨n=2) (hp:n=2→qeO P h0 B Q all o S) (hd:dOk S.n o.dst=true)
   (h:qa3 P h0 B Q all fl r ⟨S.n,putS o.dst .dead S.s,S.d,S.nx,S.l⟩ frs S'):qa3 P h0 B Q all (n::fl) (o::r) S ({x:= .dead}::frs) S'
section
variable {Q:Exit→qaa→Prop} {all:Array Oper} {fl:List Nat} {ops:List Oper} {S S':qaa} {frs:List FR}
theorem qaI.one {o:Oper} {fr:FR} {S1:qaa} (h:qaI P h0 all [o] S [fr] S1):
  S1=⟨S.n,putS o.dst fr.x S.s,S.d,S.nx+fr.F.length,fr.W.reverse++S.l⟩∧qkV P h0 all S S1 o fr S.s S.l∧(∀b∈fr.F,S.nx≤b∧b < S1.nx):=by
 obtain⟨fr',h1,h2⟩:=h.at 0 o rfl
 simp only [List.getElem?_cons_zero,Option.some.injEq] at h1
 subst h1
 simp only [Nat.not_lt_zero,decide_false,qbL,qbK] at h2
 refine⟨?_,h2,h2.range⟩
 cases h with
 | op hw hl hf hd h=>cases h;rfl
 | skip hw hd h=>cases h;simp
theorem qa3.nx (h:qa3 P h0 B Q all fl ops S frs S'):S.nx≤S'.nx:=by
 induction h with
 | nil S=>exact Nat.le_refl _
 | live hn h1 h ih=>exact Nat.le_trans h1.nx ih
 | dead hn hp hd h ih=>exact ih
theorem qa3.length (h:qa3 P h0 B Q all fl ops S frs S'):frs.length=ops.length∧fl.length=ops.length:=by
 induction h with
 | nil S=>simp
 | live hn h1 h ih=>simp [ih]
 | dead hn hp hd h ih=>simp [ih]
theorem qa3.fresh (h:qa3 P h0 B Q all fl ops S frs S'):
  (∀(i:Nat) (f:FR),frs[i]? =some f→ ∀b∈f.F,S.nx≤b∧b < S'.nx)∧ ∀(i j:Nat) (f g:FR),i < j→frs[i]? =some f→frs[j]? =some g→ ∀b∈f.F,∀b'∈g.F,b < b':=by
 induction h with
 | nil S=>simp
 | live hn h1 h ih=>
   obtain⟨i1,i2⟩:=ih
   obtain⟨e,h2,h3⟩:=h1.one
   have hnx:=h.nx
   have hn1:=h1.nx
   refine⟨fun i f hi b hb=>?_,fun i j f g hij hi hj b hb b' hb'=>?_⟩
   ·cases i with
    | zero=>simp at hi;subst hi;have:=h3 b hb;omega
    | succ i=>have:=i1 i f (by simpa using hi) b hb;omega
   ·obtain⟨j,rfl⟩: ∃j',j=j'+1:=⟨j - 1,by omega⟩
    cases i with
    | zero=>simp at hi;subst hi;have:=h3 b hb;have:=i1 j g (by simpa using hj) b' hb';omega
    | succ i=>exact i2 i j f g (by omega) (by simpa using hi) (by simpa using hj) b hb b' hb'
 | dead hn hp hd h ih=>
   obtain⟨i1,i2⟩:=ih
   refine⟨fun i f hi b hb=>?_,fun i j f g hij hi hj b hb b' hb'=>?_⟩
   ·cases i with
    | zero=>simp at hi;subst hi;simp at hb
    | succ i=>exact i1 i f (by simpa using hi) b hb
   ·obtain⟨j,rfl⟩: ∃j',j=j'+1:=⟨j - 1,by omega⟩
    cases i with
    | zero=>simp at hi;subst hi;simp at hb
    | succ i=>exact i2 i j f g (by omega) (by simpa using hi) (by simpa using hj) b hb b' hb'
theorem qa3.at (h:qa3 P h0 B Q all fl ops S frs S'): ∀(i:Nat) (o:Oper) (n:Nat),ops[i]? =some o→fl[i]? =some n→n≠1→n≠2→
  ∃fr,frs[i]? =some fr∧qkV P h0 all S S' o fr (selS ops frs (fun k=>decide (k < i)) S.s) (selL frs (fun k=>decide (k < i)) S.l):=by
 induction h with
 | nil S=>intro i o n ho;simp at ho
 | @live n0 fl o r S S1 S' fr frs hn h1 h ih=>
   intro i o' n ho' hf n1 n2
   obtain⟨e,h2,h3⟩:=h1.one
   have hnx:=h.nx
   have hn1:=h1.nx
   cases i with
   | zero=>
     simp at ho';subst ho'
     refine⟨fr,rfl,?_⟩
     simp only [Nat.not_lt_zero,decide_false,qbL,qbK]
     exact⟨h2.dst,h2.does,h2.reads,h2.new,fun b hb=>(by have:=h2.range b hb;omega)⟩
   | succ i=>
     obtain⟨fr',g1,g2⟩:=ih i o' n (by simpa using ho') (by simpa using hf) n1 n2
     refine⟨fr',by simpa using g1,?_⟩
     simp only [selS,selL,qdK,Nat.zero_lt_succ,decide_true,if_true]
     subst e
     exact⟨g2.dst,g2.does,g2.reads,g2.new,fun b hb=>(by have:=g2.range b hb;simp only at this;omega)⟩
 | @dead n0 fl o r S S' frs hn hp hd h ih=>
   intro i o' n ho' hf n1 n2
   cases i with
   | zero=>
     simp at hf;subst hf
     rcases hn with h | h
     ·exact absurd h n1
     ·exact absurd h n2
   | succ i=>
     obtain⟨fr',g1,g2⟩:=ih i o' n (by simpa using ho') (by simpa using hf) n1 n2
     refine⟨fr',by simpa using g1,?_⟩
     simp only [selS,selL,qdK,Nat.zero_lt_succ,decide_true,if_true,List.reverse_nil,List.nil_append]
     exact⟨g2.dst,g2.does,g2.reads,g2.new,g2.range⟩
theorem qa3.pan (h:qa3 P h0 B Q all fl ops S frs S'): ∀(i:Nat) (o:Oper),ops[i]? =some o→fl[i]? =some 2→
  ∃nx,nx≤S'.nx∧qeO P h0 B Q all o ⟨S.n,selS ops frs (fun k=>decide (k < i)) S.s,S.d,nx,selL frs (fun k=>decide (k < i)) S.l⟩:=by
 induction h with
 | nil S=>intro i o ho;simp at ho
 | @live n0 fl o r S S1 S' fr frs hn h1 h ih=>
   intro i o' ho' hf
   obtain⟨e,h2,h3⟩:=h1.one
   cases i with
   | zero=>simp at hf;subst hf;exact absurd rfl hn.2
   | succ i=>
     obtain⟨nx,g1,g2⟩:=ih i o' (by simpa using ho') (by simpa using hf)
     refine⟨nx,g1,?_⟩
     simp only [selS,selL,qdK,Nat.zero_lt_succ,decide_true,if_true]
     subst e
     exact g2
 | @dead n0 fl o r S S' frs hn hp hd h ih=>
   intro i o' ho' hf
   have hnx:=h.nx
   cases i with
   | zero=>
     simp at hf ho';subst hf ho'
     refine⟨S.nx,hnx,?_⟩
     simp only [Nat.not_lt_zero,decide_false,qbL,qbK]
     exact hp rfl
   | succ i=>
     obtain⟨nx,g1,g2⟩:=ih i o' (by simpa using ho') (by simpa using hf)
     refine⟨nx,g1,?_⟩
     simp only [selS,selL,qdK,Nat.zero_lt_succ,decide_true,if_true,List.reverse_nil,List.nil_append]
     exact g2
end
def flGo (ms:List Nat) (j:Nat):Nat→List Nat→Bool
 | _, []=>true
 | i,n::r=>(match n with
   | 0=>true
   | 1=>((ms[i]?).getD 0).testBit j
   | 2=>i==j
   | _=>((ms[j]?).getD 0).testBit i) && flGo ms j (i+1) r
theorem qfE {ms:List Nat} {j:Nat}: ∀ {l:List Nat} {i:Nat},flGo ms j i l=true→ ∀(k n:Nat),l[k]? =some n→
  (n=1→((ms[i+k]?).getD 0).testBit j=true)∧(n=2→i+k=j)∧(3≤n→((ms[j]?).getD 0).testBit (i+k)=true)
 | [],i,_,k,n,h=>by simp at h
 | m::l,i,h,k,n,hk=>by
   simp only [flGo,Bool.and_eq_true] at h
   cases k with
   | zero=>
     simp at hk;subst hk
     have h1:=h.1
     refine⟨fun e=>?_,fun e=>?_,fun e=>?_⟩
     ·subst e;simpa using h1
     ·subst e;simpa using h1
     ·obtain⟨x,rfl⟩: ∃x,m=x+3:=⟨m - 3,by omega⟩
      simpa using h1
   | succ k=>
     have:=qfE h.2 k n (by simpa using hk)
     rw [show i+(k+1)=i+1+k by omega];exact this
def wchk:List Nat→List FP→Prop
 | n::fl,fp::r=>(if 3≤n then True else fp.2= [])∧wchk fl r
 | _,_=>True
theorem qjT: ∀ {fl:List Nat} {r:List FP},wchk fl r→ ∀(i n:Nat) (fp:FP),fl[i]? =some n→r[i]? =some fp→fp.2≠ []→3≤n
 | [],r,_,i,n,fp,h,_,_=>by simp at h
 | _::_, [],_,i,n,fp,_,h,_=>by simp at h
 | m::fl,q::r,h,0,n,fp,h1,h2,h3=>by
   simp at h1 h2;subst h1 h2
   have:=h.1
   split at this
   ·assumption
   ·exact absurd this h3
 | m::fl,q::r,h,i+1,n,fp,h1,h2,h3=>qjT h.2 i n fp (by simpa using h1) (by simpa using h2) h3
section
variable {ops:List Oper} {frs:List FR} {S S':qaa} {u:List (Option (List Nat))} {M0 M:Mem} {a:Act} {fl:List Nat} {Q0:Exit→qaa→Prop}
theorem J.stepX {L:Nat→Bool} {ro:Option Nat} (hro:RoOk ro (ops.all ndOp)) (hst:Stat ops u) (hd:qa3 P h0 B Q0 ops.toArray fl ops S frs S') (hc:chk u (frs.map FR.fp)) (hJ:J M0 h0 ops frs S L M a) {i n:Nat} {o:Oper} (ho:ops[i]? =some o) (hn:fl[i]? =some n) (hn1:n≠1) (hn2:n≠2)
  (hr: ∀e∈o.after.toList,Region.binds .any e=true→L e.on=true) (hi:L i=false) {K:Act→World→Prop} {Q:Exit→Act→World→Prop}
  (hK: ∀M' a',J M0 h0 ops frs S (fun k=>if k=i then true else L k) M' a'→K a' M'.w):wpOpIn (Wd ro) 0 P ops.toArray Q i K a M.w:=by
 obtain⟨fr,hfr,hat⟩:=hd.at i o n ho hn hn1 hn2
 have hfree:=hJ.free hst ho hr hi
 have hlen:=hd.length.1
 have hslot: ∀t,t∈o.looksAt ops.toArray→look (selS ops frs L S.s) t=look (selS ops frs (fun k=>decide (k < i)) S.s) t:=by
  intro t ht
  refine selS_agree rfl fun j oj hj hne e=>?_
  exact hst.looks i j o oj (hfree j hne) ho hj t e ht
 have hread: ∀p∈fr.R,look (selL frs L S.l++h0.m) p.1=some p.2:=by
  intro p hp
  rw [←hat.reads p hp,qad,qad]
  congr 1
  rw [qbJ (l':=S.l) rfl fun j f hj hne q hq=>?_]
  exact fun e=>((qd5 hst hlen hc (hfree j hne) hfr hj q hq).1 p hp) e.symm
 have hA: ∀b,M.H.A b→b < S'.nx:=by
  intro b hb
  rcases hJ.A b hb with h | ⟨j,f,_,hf,hb⟩
  ·exact Nat.lt_of_lt_of_le h hd.nx
  ·exact(hd.fresh.1 j f hf b hb).2
 have hM:HRel S'.nx (selL frs L S.l++h0.m) M:=⟨hJ.rel,hA,hJ.G⟩
 have hfresh: ∀b∈fr.F,¬M.H.A b:=by
  intro b hb hab
  obtain⟨r1,_⟩:=hd.fresh.1 i fr hfr b hb
  rcases hJ.A b hab with h | ⟨j,f,hLj,hf,hb'⟩
  ·omega
  ·have hne:j≠i:=by rintro rfl;rw [hi] at hLj;cases hLj
   rcases Nat.lt_or_gt_of_ne hne with h | h
   ·have:=hd.fresh.2 j i f fr h hf hfr b hb' b hb;omega
   ·have:=hd.fresh.2 i j fr f h hfr hf b hb b hb';omega
 have hops: ∀y∈o.op.operands,∀z,ev (selS ops frs (fun k=>decide (k < i)) S.s) y=some z→VRel M z (a.eval y):=by
  intro y hy z hz
  refine ev_rel' hJ.slot (fun t ht=>hslot t ?_) hz
  subst ht
  exact List.mem_append_left _ (List.mem_filterMap.2 ⟨.tmp t,by simpa using hy,rfl⟩)
 have hguard: ∀j w d,o.guard=some (j,w)→(ops.toArray[j]?).bind (·.dst)=some d→look (selS ops frs L S.s) d=look (selS ops frs (fun k=>decide (k < i)) S.s) d:=by
  intro j w d hg hdd
  refine hslot d (List.mem_append_right _ ?_)
  rw [hg]
  simp only [hdd]
  simp
 have hnext: ∀(v:Value) (M':Mem),qae M M'→MRel M'→M'.H=M.H.upd fr.W→VRel M' fr.x v→J M0 h0 ops frs S (fun k=>if k=i then true else L k) M' (a.put o.dst v):=by
  intro v M' st rel hH hv
  have hdiff: ∀j,(if j=i then true else L j)≠L j→j=i:=by
   intro j h;by_cases e:j=i
   ·exact e
   ·rw [if_neg e] at h;exact absurd rfl h
  refine⟨hJ.st.trans st,rel,fun b hb=>?_,fun b=>?_,?_,fun t x hx=>?_,?_,fun k ok hk hl e he hb=>?_⟩
  ·rw [hH,qir] at hb
   rcases hb with hb | ⟨blk,hb⟩
   ·rcases hJ.A b hb with h | ⟨j,f,h1,h2,h3⟩
    ·exact .inl h
    ·exact .inr ⟨j,f,by by_cases e:j=i<;>simp [e,h1],h2,h3⟩
   ·rcases hat.new _ hb with h | ⟨blk',h⟩
    ·exact .inr ⟨i,fr,by simp,hfr,h⟩
    ·have h1:=hread _ h
     simp only at h1
     rw [←hJ.G] at h1
     rcases hJ.A b (hJ.rel.dom b _ h1) with h | ⟨j,f,h1,h2,h3⟩
     ·exact .inl h
     ·exact .inr ⟨j,f,by by_cases e:j=i<;>simp [e,h1],h2,h3⟩
  ·rw [hH,qgy,qad]
   cases hw:look fr.W.reverse b with
   | some blk=>
     rw [qi0 (i:=i) (by simp) hfr hw fun j f hj hlt hLj p hp e=>?_]
     have hLj':L j=true:=by simpa [show j≠i by omega] using hLj
     have hfj:=hfree j (by rw [hLj'];simp;omega)
     have hq:=qaD hw
     exact(qd5 hst hlen hc hfj hfr hj p hp).2 _ (by simpa using hq) e.symm
   | none=>
     rw [qbJ (l':=S.l) (L':=L) rfl fun j f hj hne p hp e=>?_]
     ·rw [hJ.G b,qad]
     ·have:=hdiff j hne
      subst this
      rw [hfr] at hj;cases hj
      exact look_none hw p (by simpa using hp) e
  ·cases hdst:o.dst with
   | none=>exact hJ.size
   | some d=>simp only [Act.put,Array.size_setIfInBounds];exact hJ.size
  ·by_cases e:o.dst=some t
   ·rw [qi1 (i:=i) (by simp) ho hfr e (fun j oj hj hne=>hst.dst i j o oj (Ne.symm hne) ho hj t e)] at hx
    cases hx
    have hlt:t < a.tmps.size:=by
     have:=hat.dst
     rw [e] at this
     rw [hJ.size];simpa [dOk] using this
    exact⟨v,by rw [e];simp [Act.put,hlt],hv⟩
   ·rw [selS_agree (L':=L) (s':=S.s) rfl fun j oj hj hne=>(by have:=hdiff j hne;subst this;rw [ho] at hj;cases hj;exact e)] at hx
    obtain⟨v',h1,h2⟩:=hJ.slot t x hx
    refine⟨v',?_,h2.step st⟩
    cases hdst:o.dst with
    | none=>exact h1
    | some d=>
      simp only [Act.put]
      rw [Array.getElem?_setIfInBounds_ne (fun h=>e (by rw [hdst,h]))]
      exact h1
  ·have:(a.put o.dst v).defers=a.defers:=by cases o.dst<;>rfl
   rw [this]
   exact hJ.defs.step st
  ·by_cases ek:k=i
   ·subst ek
    rw [ho] at hk;cases hk
    have:=hr e he hb
    show(if e.on=k then true else L e.on)=true
    split<;>simp [this]
   ·have hl':L k=true:=by simpa [ek] using hl
    have:=hJ.closed k ok hk hl' e he hb
    show(if e.on=i then true else L e.on)=true
    split<;>simp [this]
 refine qkf (fun o' ho'=>hro.mem (List.mem_of_getElem? (by simpa using ho'))) ?_
 simp only [List.getElem?_toArray,ho]
 rcases hat.does with ⟨hw,hl⟩ | ⟨hw,he⟩
 ·rw [if_pos (qdu hJ.slot hguard hw)]
  exact(hl S'.nx _ M a hM hread hfresh hops K Q fun v M' st rel hH hv=>hK M' _ (hnext v M' st rel hH hv))
 ·rw [qdu hJ.slot hguard hw]
  simp only [Bool.false_eq_true,if_false]
  refine hK M _ (hnext undef M (.refl M) hJ.rel (by rw [he];rfl) (by rw [he];exact qin _))
theorem J.panX {L:Nat→Bool} {k:List It} {j0:Nat} {ro:Option Nat} (hro:RoOk ro (ops.all ndOp)) (hst:Stat ops u) (hd:qa3 P h0 B Q0 ops.toArray fl ops S frs S') (hfl:flGo (qaV ops []) j0 0 fl=true) (hc:wchk fl (frs.map FR.fp)) (hB:B S'.nx) (hJ:J M0 h0 ops frs S L M a) {o:Oper} (ho:ops[j0]? =some o) (hn:fl[j0]? =some 2)
  (hr: ∀e∈o.after.toList,Region.binds .any e=true→L e.on=true) (hi:L j0=false) {K:Act→World→Prop}:
  wpOpIn (Wd ro) 0 P ops.toArray (qcA h0 M0 fun e S=>after P h0 Q0 k e S) j0 K a M.w:=by
 have hfree:=hJ.free hst ho hr hi
 obtain⟨hlen,hlf⟩:=hd.length
 obtain⟨nx,hnx,f,args,ts,q,hop,hcal,hw,hfn,args',R,ch,Wp,ids,hp,⟨e1,ha,hR⟩,hQ⟩:=hd.pan j0 o ho hn
 have hslot: ∀t,t∈o.looksAt ops.toArray→look (selS ops frs L S.s) t=look (selS ops frs (fun k=>decide (k < j0)) S.s) t:=by
  intro t ht
  refine selS_agree rfl fun j oj hj hne e=>?_
  exact hst.looks j0 j o oj (hfree j hne) ho hj t e ht
 -- what the operations wrote
 have hGl: ∀b,look (selL frs L S.l++h0.m) b=look (selL frs (fun k=>decide (k < j0)) S.l++h0.m) b:=by
  intro b
  rw [qad,qad]
  congr 1
  refine qbJ rfl fun j f hj hne p hp=>?_
  exfalso
  have hjl:=qab hj
  have hf1:=List.getElem?_eq_getElem (show j < fl.length by omega)
  have h3:=qjT hc j _ f.fp hf1 (by rw [List.getElem?_map,hj];rfl) (by simp only [FR.fp];intro e;rw [List.map_eq_nil_iff] at e;rw [e] at hp;cases hp)
  have h4:=(qfE hfl j _ hf1).2.2 h3
  rw [Nat.zero_add] at h4
  exact(hfree j hne).2.2 h4
 have hA: ∀b,M.H.A b→b < S'.nx:=by
  intro b hb
  rcases hJ.A b hb with h | ⟨j,f,_,hf,hb⟩
  ·exact Nat.lt_of_lt_of_le h hd.nx
  ·exact(hd.fresh.1 j f hf b hb).2
 have hM:HRel S'.nx (selL frs (fun k=>decide (k < j0)) S.l++h0.m) M:=⟨hJ.rel,hA,fun b=>by rw [hJ.G,hGl]⟩
 have hops: ∀y∈o.op.operands,∀z,ev (selS ops frs (fun k=>decide (k < j0)) S.s) y=some z→VRel M z (a.eval y):=by
  intro y hy z hz
  refine ev_rel' hJ.slot (fun t ht=>hslot t ?_) hz
  subst ht
  exact List.mem_append_left _ (List.mem_filterMap.2 ⟨.tmp t,by simpa using hy,rfl⟩)
 have hguard: ∀j w d,o.guard=some (j,w)→(ops.toArray[j]?).bind (·.dst)=some d→look (selS ops frs L S.s) d=look (selS ops frs (fun k=>decide (k < j0)) S.s) d:=by
  intro j w d hg hdd
  refine hslot d (List.mem_append_right _ ?_)
  rw [hg]
  simp only [hdd]
  simp
 have hdef:qd3 M S.d a.defers:=hJ.defs
 refine qkf (fun o' ho'=>hro.mem (List.mem_of_getElem? (by simpa using ho'))) ?_
 simp only [List.getElem?_toArray,ho]
 rw [if_pos (qdu hJ.slot hguard hw)]
 obtain⟨vs,hrun,hlen',hv⟩:=qed (f:=f) (args:=args) (ts:=⟨ts⟩) hops hop hcal hfn
 have hh:Here M ids nx R 0:=qgf hM.rel ha hR (fun b blk _ hb=>by rw [hM.G];exact hb) (fun b h1 h2 hb=>by omega)
 have hwk:wks q.2 (rnms (ridx ids nx) args'):=by rw [e1];exact qcD ts q.2
 obtain⟨e2,e3⟩:=qca hwk
 rw [qaL] at e2
 unfold Oper.wp
 rw [hrun]
 refine Calls.mono (hp.calls hM.rel hh (by omega) fun i y v hy hv'=>?_) fun e w' ⟨M',W,e4,st,rel,hH,he,hW,hk⟩=>?_
 ·have hlt:=qab hy
  have hx:=List.getElem?_eq_getElem (show i < q.2.length by omega)
  exact(hv i _ v hx hv').wk (e3 i _ _ hx (qbV hy))
 ·subst e4 he
  refine⟨M',⟨S.n, [],S.d,S'.nx,rnL (ridx ids nx) W++selL frs (fun k=>decide (k < j0)) S.l⟩,rfl,hJ.st.trans st,⟨?_,hJ.size,fun t x hx=>?_,hdef.step st⟩,qcL (hQ W hW _ hnx hB)⟩
  ·rw [List.append_assoc]
   refine qgX hM rel (Nat.le_refl _) hH fun p hp'=>?_
   obtain⟨q',hq',e⟩:=qdd hp'
   rw [e]
   obtain⟨blk,hb,_⟩:=seen_mem hR (hk q' hq')
   exact hM.A _ (hM.rel.dom _ blk (by rw [hM.G];exact hb))
  ·simp [look] at hx
theorem drawnX {k:List It} {j0:Nat} {o0:Oper} {ro:Option Nat} (hro:RoOk ro (ops.all ndOp)) (hst:Stat ops u) (hd:qa3 P h0 B Q0 ops.toArray fl ops S frs S') (hfl:flGo (qaV ops []) j0 0 fl=true) (hc:chk u (frs.map FR.fp)) (hw:wchk fl (frs.map FR.fp)) (hB:B S'.nx) (ho0:ops[j0]? =some o0) (hn0:fl[j0]? =some 2):
  ∀(fuel:Nat) (listed:Array Bool) (M:Mem) (a:Act),listed.size=ops.length→(listed.toList.filter (·==true)).length+fuel=ops.length→listed.getD j0 false=false→
   J M0 h0 ops frs S (fun k=>listed.getD k false) M a→wpAnyIn (Wd ro) 0 P .any ops.toArray (qcA h0 M0 fun e S=>after P h0 Q0 k e S) fuel listed a M.w:=by
 have hgetD: ∀(listed:Array Bool) (k:Nat),k < listed.size→listed.getD k true=listed.getD k false:=by
  intro listed k hk;simp [hk]
 have hj0:=qab ho0
 have hready: ∀(listed:Array Bool),listed.size=ops.length→Region.ready .any ops.toArray listed= []→ ∀k,k < ops.length→listed.getD k false=true:=by
  intro listed hs hr k
  induction k using Nat.strongRecOn with
  | ind k ih=>
    intro hk
    cases hl:listed.getD k false with
    | true=>rfl
    | false=>
      exfalso
      have:k∈Region.ready .any ops.toArray listed:=by
       rw [mem_ready]
       refine⟨by rw [hgetD listed k (by omega)];exact hl,ops[k],by simp [hk],fun e he hb=>?_⟩
       have hlow:=hst.low k ops[k] (by simp [hk]) e (by simpa using he) hb
       exact ih e.on hlow (by omega)
      rw [hr] at this
      cases this
 have hcount: ∀(l:List Bool),(l.filter (·==true)).length=l.length→ ∀k,k < l.length→(l[k]?).getD false=true:=by
  intro l
  induction l with
  | nil=>intro _ k hk;simp at hk
  | cons b l ih=>
    intro h k hk
    have hle:=List.length_filter_le (·==true) l
    cases b with
    | true=>
      simp only [List.filter_cons,beq_self_eq_true,if_true,List.length_cons] at h
      cases k with
      | zero=>simp
      | succ k=>simpa using ih (by omega) k (by simpa using hk)
    | false=>
      simp at h
      simp at hle
      omega
 have hset: ∀(l:List Bool) (i:Nat),l[i]? =some false→((l.set i true).filter (·==true)).length=(l.filter (·==true)).length+1:=by
  intro l
  induction l with
  | nil=>intro i h;simp at h
  | cons b l ih=>
    intro i h
    cases i with
    | zero=>simp at h;subst h;simp
    | succ i=>
      have:=ih i (by simpa using h)
      simp only [List.set_cons_succ,List.filter_cons]
      split<;>simp_all
 intro fuel
 induction fuel with
 | zero=>
   intro listed M a hs hn hj hJ
   exfalso
   have:=hcount listed.toList (by simpa [hs] using hn) j0 (by simpa [hs] using hj0)
   have:listed.getD j0 false=true:=by simpa using this
   rw [hj] at this;cases this
 | succ fuel ih=>
   intro listed M a hs hn hj hJ
   refine⟨fun hr=>?_,fun i hi=>?_⟩
   ·have:=hready listed hs hr j0 hj0
    rw [hj] at this;cases this
   ·obtain⟨h1,o,ho,hre⟩:=mem_ready.1 hi
    simp only [List.getElem?_toArray] at ho
    have hlt:=qab ho
    have hfalse:listed.getD i false=false:=by rw [←hgetD listed i (by omega)];exact h1
    have hfi:=List.getElem?_eq_getElem (show i < fl.length by rw [hd.length.2];exact hlt)
    have hsp:=qfE hfl i _ hfi
    rw [Nat.zero_add] at hsp
    have hre': ∀e∈o.after.toList,Region.binds .any e=true→listed.getD e.on false=true:=fun e he hb=>hre e (by simpa using he) hb
    by_cases e2:fl[i]'(by rw [hd.length.2];exact hlt)=2
    ·have e:=hsp.2.1 e2
     subst e
     rw [ho] at ho0;cases ho0
     exact hJ.panX hro hst hd hfl hw hB ho hn0 hre' hfalse
    ·by_cases e1:fl[i]'(by rw [hd.length.2];exact hlt)=1
     ·have hp:=hst.prec i j0 (hsp.1 e1)
      have:=hp.listed hJ.closed (.inr ⟨o,ho,hre'⟩)
      rw [hj] at this;cases this
     ·refine hJ.stepX hro hst hd hc ho hfi e1 e2 hre' hfalse fun M' a' hJ'=>?_
      have hne:i≠j0:=by
       rintro rfl
       rw [hfi] at hn0
       simp only [Option.some.injEq] at hn0
       exact e2 hn0
      refine ih _ M' a' (by simpa using hs) ?_ ?_ ?_
      ·have hb:listed.toList[i]? =some false:=by
        have hi':i < listed.size:=by omega
        simp [hi'] at hfalse
        simp [hi',hfalse]
       have:=hset listed.toList i hb
       simp only [Array.toList_setIfInBounds]
       omega
      ·rw [getD_set_ne false hne];exact hj
      ·have:(fun k=>(listed.setIfInBounds i true).getD k false)=fun k=>if k=i then true else listed.getD k false:=by
        funext k
        by_cases e:k=i
        ·subst e
         have hi':k < listed.size:=by omega
         simp [hi']
        ·rw [getD_set_ne false (Ne.symm e),if_neg e]
       rw [this]
       exact hJ'
theorem qgE {id:Nat} {k:List It} {j0:Nat} {o0:Oper} (hm:P.follows .mixedOrders=true) (hst:stat ops u=true) (hfl:flGo (qaV ops []) j0 0 fl=true) (hd:qa3 P h0 B Q0 ops.toArray fl ops S frs S')
  (hc:chk u (frs.map FR.fp)) (hw:wchk fl (frs.map FR.fp)) (hB:B S'.nx) (ho0:ops[j0]? =some o0) (hn0:fl[j0]? =some 2):IRun P h0 (.code (.region id ops.toArray true)::k) S Q0:=by
 intro M0 hM0 M a hs hr ro hro
 refine wpIn_region_any hm ?_
 have:=drawnX (M0:=M0) (k:=k) (ro:=ro) hro (qjQ hst) hd hfl hc hw hB ho0 hn0 ops.length (Array.replicate ops.length false)
  {M with w:=M.w.drew} a (by simp) (by simp) (by simp only [Array.getD_eq_getD_getElem?,Array.getElem?_replicate];split<;>rfl) ?_
 ·simp only [List.size_toArray]
  exact this
 ·have hsel:(fun k=>(Array.replicate ops.length false).getD k false)=fun _=>false:=by
   funext k
   simp only [Array.getD_eq_getD_getElem?,Array.getElem?_replicate]
   split<;>rfl
  rw [hsel]
  exact⟨hs.trans (.drew M),hr.heap.rel.drew,fun b hb=> .inl (hr.heap.A b hb),fun b=>(by rw [qbK];exact hr.heap.G b),hr.size,
   fun t x hx=>(by rw [qbL] at hx;obtain⟨v,h1,h2⟩:=hr.slot t x hx;exact⟨v,h1,h2.step (.drew M)⟩),hr.defs.step (.drew M),fun i o ho hl=>(by cases hl)⟩
end
/-! ### the walk -/
def PRun (P:Program) (h0:IH) (Q:Exit→qaa→Prop) (all:Array Oper) (fl:List Nat) (l:List Oper) (S:qaa) (acc:List FP) (K:List FP→Prop):Prop:=
 ∃frs S',qa3 P h0 (fun _=>True) Q all fl l S frs S'∧K (acc++frs.map FR.fp)
def pvx (P:Program) (h0:IH) (Q:Exit→qaa→Prop) (all:Array Oper) (K:List FP→Prop):List Nat→List Oper→qaa→List FP→Prop
 | [], [],_,acc=>K acc
 | 1::fl,o::r,S,acc=>dOk S.n o.dst=true∧pvx P h0 Q all K fl r ⟨S.n,putS o.dst .dead S.s,S.d,S.nx,S.l⟩ (acc++ [([], [])])
 | 2::fl,o::r,S,acc=>(dOk S.n o.dst=true∧qeO P h0 (fun _=>True) Q all o S)∧pvx P h0 Q all K fl r ⟨S.n,putS o.dst .dead S.s,S.d,S.nx,S.l⟩ (acc++ [([], [])])
 | _::fl,o::r,S,acc=>dvc P h0 all (fun S' acc'=>pvx P h0 Q all K fl r S' acc') [o] S acc
 | _,_,_,_=>False
theorem qec {Q:Exit→qaa→Prop} {all:Array Oper} {K:List FP→Prop}: ∀(fl:List Nat) (l:List Oper) (S:qaa) (acc:List FP),pvx P h0 Q all K fl l S acc→PRun P h0 Q all fl l S acc K
 | [], [],S,acc,h=>⟨[],S, .nil S,by simp only [List.map_nil,List.append_nil];exact h⟩
 | [],_::_,S,acc,h=>h.elim
 | n::fl, [],S,acc,h=>by
   rcases n with _ | _ | _ | n<;>exact h.elim
 | n::fl,o::r,S,acc,h=>by
   have live:(n≠1∧n≠2)→dvc P h0 all (fun S' acc'=>pvx P h0 Q all K fl r S' acc') [o] S acc→PRun P h0 Q all (n::fl) (o::r) S acc K:=by
    intro hn h
    obtain⟨frs,S1,h1,h2⟩:=dvc_sound _ _ _ h
    have hlen:=h1.length
    match frs,hlen with
    | [fr],_=>
      obtain⟨frs',S',g1,g2⟩:=qec fl r S1 _ h2
      exact⟨fr::frs',S', .live hn h1 g1,by simpa using g2⟩
   rcases n with _ | _ | _ | n
   ·exact live (by decide) h
   ·obtain⟨h1,h2⟩:=h
    obtain⟨frs,S',g1,g2⟩:=qec fl r _ _ h2
    exact⟨_::frs,S', .dead (.inl rfl) (fun e=>by cases e) h1 g1,by simpa [FR.fp] using g2⟩
   ·obtain⟨⟨h1,h3⟩,h2⟩:=h
    obtain⟨frs,S',g1,g2⟩:=qec fl r _ _ h2
    exact⟨_::frs,S', .dead (.inr rfl) (fun _=>h3) h1 g1,by simpa [FR.fp] using g2⟩
   ·exact live ⟨by omega,by omega⟩ h
theorem qcE {ops:List Oper} {id:Nat} {k:List It} {S:qaa} {Q:Exit→qaa→Prop} (u:List (Option (List Nat))) (j0:Nat) (fl:List Nat) (hm:P.follows .mixedOrders=true) (hst:stat ops u=true)
  (hfl:(flGo (qaV ops []) j0 0 fl && (ops[j0]?).isSome && fl[j0]? ==some 2)=true)
  (h:pvx P h0 Q ops.toArray (fun fps=>chk u fps∧wchk fl fps) fl ops S []):IRun P h0 (.code (.region id ops.toArray true)::k) S Q:=by
 simp only [Bool.and_eq_true,beq_iff_eq] at hfl
 obtain⟨⟨h1,h2⟩,h3⟩:=hfl
 obtain⟨o0,ho0⟩:=Option.isSome_iff_exists.1 h2
 obtain⟨frs,S',g1,g2,g3⟩:=qec _ _ _ _ h
 exact qgE hm hst h1 g1 (by simpa using g2) (by simpa using g3) trivial ho0 h3
section
variable {Q:Exit→qaa→Prop} {all:Array Oper} {K:List FP→Prop} {fl:List Nat} {o:Oper} {r:List Oper} {N:Nat} {s:List (Nat × IV)} {d:List IDef} {nx:Nat} {l:List (Nat × IBlk)} {acc:List FP}
@[go_sem ↓] theorem pvx_nil {S:qaa}:pvx P h0 Q all K [] [] S acc=K acc:=(rfl)
@[go_sem ↓] theorem pvx_3 {S:qaa}:pvx P h0 Q all K (3::fl) (o::r) S acc=dvc P h0 all (fun S' acc'=>pvx P h0 Q all K fl r S' acc') [o] S acc:=(rfl)
@[go_sem ↓] theorem pvx_2:pvx P h0 Q all K (2::fl) (o::r) ⟨N,s,d,nx,l⟩ acc=((dOk N o.dst=true∧qeO P h0 (fun _=>True) Q all o ⟨N,s,d,nx,l⟩)∧pvx P h0 Q all K fl r ⟨N,putS o.dst .dead s,d,nx,l⟩ (acc++ [([], [])])):=(rfl)
variable {dst:Option Tmp} {ty:TypeId} {pos:String} {aft:Array Edge} {g:Option (Nat × Bool)} {f:Operand} {args:List Operand} {ts:List TypeId}
theorem qcF (h:qaq (qas (ev s) f args) (fun q=>(qai all s ⟨dst, .call {callee:= .value f,args:=⟨args⟩,argTypes:=⟨ts⟩},ty,pos,aft,g⟩=some true∧fnOk P q.1=true)∧
   qes P q.1 (qbI P ts q.2) (look (l++h0.m)) nx fun ch W=> ∀nx',nx≤nx'→Q (.panic ch) ⟨N, [],d,nx',W++l⟩) False):
  qeO P h0 (fun _=>True) Q all ⟨dst, .call {callee:= .value f,args:=⟨args⟩,argTypes:=⟨ts⟩},ty,pos,aft,g⟩ ⟨N,s,d,nx,l⟩:=by
 cases hc:qas (ev s) f args with
 | none=>rw [hc] at h;exact h.elim
 | some q=>
   rw [hc,qaj] at h
   obtain⟨args',R,ch,Wp,ids,hp,he,hQ⟩:=h.2
   exact⟨f,args,ts,q,rfl,hc,h.1.1,h.1.2,args',R,ch,Wp,ids,hp,he,fun W hW nx' hn _=>hQ W hW nx' hn⟩
end
attribute [go_sem] wchk
end Go.Idl
/-
 Functions that defer a call which recovers, on the walk.
-/
namespace Go.Idl
variable {P:Program} {h0:IH}
theorem qnn {F:Fence} {n:Nat} {o:Oper} {a:Act} {next next':Act→World→Prop} {Q Q':Exit→Act→World→Prop} {r:Result Next} (h:o.uponIn F n P a next Q r) (hn: ∀a w,next a w→next' a w) (hq: ∀e a w,Q e a w→Q' e a w):o.uponIn F n P a next' Q' r:=by
 have hl:LetsOut Q→LetsOut Q':=fun⟨a,w,q⟩=>⟨a,w,hq _ _ _ q⟩
 have hE: ∀e w,(match(e:Ending),(w:World) with | .returned v,w''=>next (a.put o.dst v) w'' | .panicked chain,w''=>Q (.panic chain) a w'' | .outgrown,_=>LetsOut Q)→
   (match e,w with | .returned v,w''=>next' (a.put o.dst v) w'' | .panicked chain,w''=>Q' (.panic chain) a w'' | .outgrown,_=>LetsOut Q'):=by
  intro e w hh
  cases e with
  | returned v=>exact hn _ _ hh
  | panicked ch=>exact hq _ _ _ hh
  | outgrown=>exact hl hh
 unfold Oper.uponIn at h ⊢
 split at h
 ·exact hn _ _ h
 ·exact hn _ _ h
 ·exact hn _ _ h
 ·exact⟨h.1,h.2.mono hE⟩
 ·exact⟨h.1,h.2.mono fun v w hh=>hn _ _ hh⟩
 ·exact⟨h.1,h.2.mono hE⟩
 ·exact hq _ _ _ h
 ·exact h.elim
theorem qj5 {F:Fence} {n:Nat} {all:Array Oper} {Q Q':Exit→Act→World→Prop} (hq: ∀e a w,Q e a w→Q' e a w): ∀(l:List Oper) (a:Act) (w:World),wpListIn F n P all Q l a w→wpListIn F n P all Q' l a w:=by
 intro l
 induction l with
 | nil=>exact fun a w h=>hq _ _ _ h
 | cons o l ih=>
   intro a w h
   simp only [wpListIn] at h ⊢
   split at h
   ·rename_i hw
    rw [if_pos hw]
    exact⟨h.1,qnn h.2 (fun a w h=>ih a w h) hq⟩
   ·rename_i hw
    rw [if_neg hw]
    exact⟨h.1,ih _ _ h.2⟩
theorem IOps.mono {all:Array Oper} {l:List Oper} {S:qaa} {Q Q':Exit→qaa→Prop} (h:IOps P h0 all l S Q) (hq: ∀e S,Q e S→Q' e S):IOps P h0 all l S Q':=
 fun M0 hM0 M a hs hr ro hro=>qj5 (fun _ _ _ ⟨M',S',h1,h2,h3,h4⟩=>⟨M',S',h1,h2,h3,hq _ _ h4⟩) _ _ _ (h M0 hM0 M a hs hr ro hro)
def qkl (P:Program) (fnc:Func) (h:IH) (K:Nat→List (Nat × IBlk)→Prop):Exit→qaa→Prop
 | .normal,S=>S.d= []∧h.nx≤S.nx∧(ires P S (S.l++h.m) fnc.results.toList).isSome=true∧K S.nx (ddp S.l)
 | .ret,S=>S.d= []∧h.nx≤S.nx∧(ires P S (S.l++h.m) fnc.results.toList).isSome=true∧K S.nx (ddp S.l)
 | _,_=>False
section
variable {fnc:Func} {h:IH} {K:Nat→List (Nat × IBlk)→Prop} {N:Nat} {s:List (Nat × IV)} {d:List IDef} {nx:Nat} {l:List (Nat × IBlk)}
@[go_sem ↓] theorem qsg:qkl P fnc h K .normal ⟨N,s,d,nx,l⟩=(d= []∧h.nx≤nx∧(ires P ⟨N,s,d,nx,l⟩ (l++h.m) fnc.results.toList).isSome=true∧K nx (ddp l)):=(rfl)
end
theorem leaves_rec (n:Nat) {fn fnc:Func} {Q:IEnd→Nat→List (Nat × IBlk)→Prop} {N:Nat} {s:List (Nat × IV)} {d ds:List IDef} {nx:Nat} {l:List (Nat × IBlk)} {f:FuncId} {cap args:List IV} {u:qaB}
  {id:Nat} {dst:Option Tmp} {ts:Array TypeId} {ty:TypeId} {pos:String} {aft:Array Edge} {rest:List Oper} {c2:Code} (hn:fnOk P f=true) (hf:P.funcs[f]? =some fnc)
  (hb:fnc.body=some (.seq (.region id ⟨⟨dst, .call {callee:= .builtin .recover,args:=#[],argTypes:=ts},ty,pos,aft,none⟩::rest⟩ false) c2)) (hlen:(args++cap).length≤fnc.ntmps) (hd:dOk fnc.ntmps dst=true)
  (h:vc P ⟨nx,l++h0.m⟩ (qkl P fnc ⟨nx,l++h0.m⟩ fun nx' l'=>qbb P fn h0 Q ⟨N,s,d,nx',l'++l⟩ ds (qb7 (qaU u).2)) n
   (.ops ⟨⟨dst, .call {callee:= .builtin .recover,args:=#[],argTypes:=ts},ty,pos,aft,none⟩::rest⟩ rest:: .code c2:: [])
   ⟨fnc.ntmps,putS dst (.p (.sc (qaU u).1)) (enum 0 (args++cap)), [],nx, []⟩) (hnc:rest.all ncOp=true:=by rfl):qbb P fn h0 Q ⟨N,s,d,nx,l⟩ (⟨.func f,cap,args⟩::ds) u:=by
 refine leaves_call hn (icallD_of hf hb hlen (qd6 (qdv (by cases dst<;>simp_all [dOk,qaE,start]) (fun S hq=>?_) hnc ?_)))
 ·cases hq
 ·have fin: ∀e S',qkl P fnc ⟨nx,l++h0.m⟩ (fun nx' l'=>qbb P fn h0 Q ⟨N,s,d,nx',l'++l⟩ ds (qb7 (qaU u).2)) e S'→
    FinD P fnc ⟨nx,l++h0.m⟩ (fun r u' nx' l'=>qbb P fn h0 Q {(⟨N,s,d,nx,l⟩:qaa) with nx:=nx',l:=l'++l} ds (match r with | .ret _=>qb7 u' | .pan ch=>qeC u' ch)) e (qaU u).2 S':=by
   intro e S' he
   cases e with
   | normal=>
     obtain⟨h1,h2,h3,h4⟩:=he
     obtain⟨x,hx⟩:=Option.isSome_iff_exists.1 h3
     exact .norm _ S' x _ _ h1 hx (qch h1 h2) h4
   | ret=>
     obtain⟨h1,h2,h3,h4⟩:=he
     obtain⟨x,hx⟩:=Option.isSome_iff_exists.1 h3
     exact .ret _ S' x _ _ h1 hx (qch h1 h2) h4
   | exit id=>exact he.elim
   | goto l=>exact he.elim
   | panic ch=>exact he.elim
   | outgrown=>exact he.elim
  have key:=vc_sound _ _ _ _ h
  have hS:(start fnc.ntmps (args++cap) ⟨nx,l++h0.m⟩).put dst (.p (.sc (qaU u).1)) (start fnc.ntmps (args++cap) ⟨nx,l++h0.m⟩).nx []=⟨fnc.ntmps,putS dst (.p (.sc (qaU u).1)) (enum 0 (args++cap)), [],nx, []⟩:=by
   rw [qaT];rfl
  rw [hS]
  refine IOps.mono key fun e S' he=>?_
  cases e with
  | normal=>exact qdj (qbd.mono he fun e S he=>fin e S he)
  | ret=>exact fin _ S' he
  | exit id=>exact fin _ S' he
  | goto l=>exact fin _ S' he
  | panic ch=>exact fin _ S' he
  | outgrown=>exact fin _ S' he
@[go_sem] theorem qsD {v:Value} {older:List PanicEntry}:qaU (.pan ({v:=v,recovered:=false}::older))=(v, .pan ({v:=v,recovered:=true}::older)):=(rfl)
@[go_sem] theorem qsE:qaU .ret=(.nilIface, .ret):=(rfl)
@[go_sem] theorem qsv:qb7 .ret= .ret:=(rfl)
@[go_sem] theorem qsu {v:Value}:qb7 (.pan [{v:=v,recovered:=true}])= .ret:=(rfl)
attribute [go_sem] ddp
theorem endX_of {k N nx:Nat} {m l:List (Nat × IBlk)} {s:List (Nat × IV)} {Wp:List (Nat × IBlk)→Prop} {ch:List PanicEntry} (W:List (Nat × IBlk)) (hW:Wp W) (hnx:k≤nx) (h1:qcX k (W.map (·.1)) (l.map (·.1)))
  (h2:qdF (keepB k []) (look (l++m)) W) (h3:qdo k W):EndXG k m Wp ch (.panic ch) ⟨N,s, [],nx,l⟩:=⟨rfl,rfl,hnx,W,h1,h2,h3,hW⟩
theorem ex_key {α β:Type} {b c:α} {x:β}:(∃y,(b,y)=(c,x))=(b=c):=by simp
attribute [go_sem] ex_key exists_or implies_true
theorem qi5 {Q:Exit→qaa→Prop} {k:List It} {S:qaa}:vc P h0 Q 0 k S=IRun P h0 k S Q:=by cases k<;>rfl
@[go_sem] theorem mk_all {l:List Value} {p:Value→Bool}:Array.all ⟨l⟩ p=l.all p:=by simp
attribute [go_sem] List.all_cons List.all_nil Option.bind_some
end Go.Idl
