/- Facts that the proofs of this claim lean on. -/
import Derived.Test.YtfhhdgkhajkapaaGreatIdFr
import Derived.RangeFuncRecord
set_option linter.unusedSimpArgs false
set_option linter.unusedVariables false
/-
 Loops over functions: their records, their rounds.
-/
namespace Go.Idl
variable {P:Program} {h0:IH}
def outK {α:Type} (b:Nat) (l:List (Nat × α)):List (Nat × α):=l.filter fun q=>q.1 != b
theorem qdr {α:Type} (b:Nat): ∀(l:List (Nat × α)) (k:Nat),look (outK b l) k=if k=b then none else look l k
 | [],k=>by simp [outK,look]
 | p::r,k=>by
   have ih:=qdr b r k
   unfold outK at ih ⊢
   rw [List.filter_cons]
   by_cases e:p.1=b
   ·rw [if_neg (by simp [e]),ih]
    split
    ·rfl
    ·rename_i h
     simp only [look]
     rw [if_neg (fun h2=>h (h2.symm.trans e))]
   ·rw [if_pos (by simpa using e)]
    simp only [look]
    rw [ih]
    split
    ·rename_i h2;rw [if_neg (fun h=>e (h2.trans h))]
    ·rfl
theorem qfS {M:Mem} (h:MRel M) (b:Nat) (hA: ¬M.H.A b) {k:OK} {vs:List IV} {us:List Value} {ob:Obj} (ho:ORel k us ob) (hl:us.length=vs.length)
  (hr: ∀(i:Nat) (x:IV) (v:Value),vs[i]? =some x→us[i]? =some v→VRel M x v):
  qae M ⟨M.w.alloc ob,M.H.put b (.ob k vs),putβ M.β b (some (M.w.heap.size,0,0))⟩∧
  MRel ⟨M.w.alloc ob,M.H.put b (.ob k vs),putβ M.β b (some (M.w.heap.size,0,0))⟩:=by
 have s:qae M ⟨M.w.alloc ob,M.H.put b (.ob k vs),putβ M.β b (some (M.w.heap.size,0,0))⟩:=by
  refine⟨rfl,rfl,rfl,by simp,fun c hc ho=>⟨heap_alloc_old M.w _ hc,?_⟩,fun _ h=> .inl h,fun b' blk' hA' hb'=>?_,rfl,fun _ hc=>heap_alloc_old M.w _ (h.olt _ hc)⟩
  ·rintro(hO | ⟨b',blk,o,n',hb',hc'⟩)
   ·exact ho (.inl hO)
   by_cases e:b'=b
   ·simp [putβ,e] at hc'
    omega
   ·simp only [AH.put,putβ,e,if_false] at hb' hc'
    exact ho (.inr ⟨b',blk,o,n',hb',hc'⟩)
  ·have e:b'≠b:=fun e=>hA (e ▸hA')
   simp only [AH.put,e,if_false] at hb'
   exact⟨blk',hb',rfl,rfl,Nat.le_refl _,fun _=>⟨by simp [putβ,e],rfl⟩⟩
 refine⟨s,h.change s b (.inr rfl) ?_ ?_ ?_ ?_ ?_ ?_⟩
 ·intro b' e;simp [AH.put,e]
 ·intro b' e;simp [putβ,e]
 ·intro b' blk c o n' e hb' hc'
  exact heap_alloc_old M.w _ (h.lt (.inr ⟨b',blk,o,n',hb',hc'⟩))
 ·intro blk' hb'
  simp only [AH.put,if_true,Option.some.injEq] at hb'
  subst hb'
  exact⟨M.w.heap.size,0,0,by simp [putβ],ob,us,heap_alloc_new M.w _,ho,hl,fun i x v hi hv=>(hr i x v hi hv).step s⟩
 ·intro blk' c o n' hb' hc' b' blk o' n'' e hb'' hc''
  simp only [putβ,if_true,Option.some.injEq,Prod.mk.injEq] at hc'
  have:=h.lt (.inr ⟨b',blk,o',n'',hb'',hc''⟩)
  omega
 ·intro blk' c o n' _ hc' hO
  simp only [putβ,if_true,Option.some.injEq,Prod.mk.injEq] at hc'
  have:=h.olt c hO
  omega
theorem qpI {M:Mem} (h:MRel M) {b:Nat} {k k':OK} {vs vs':List IV} {c o n:Nat} {us:List Value} {ob:Obj} (hb:M.H.G b=some (.ob k vs)) (hβ:M.β b=some (c,o,n)) (hk:(IBlk.ob k' vs').isMp=(IBlk.ob k vs).isMp)
  (ho:ORel k' us ob) (hl:us.length=vs'.length) (hr: ∀(i:Nat) (x:IV) (v:Value),vs'[i]? =some x→us[i]? =some v→VRel M x v):
  qae M ⟨M.w.putObj c ob,M.H.put b (.ob k' vs'),M.β⟩∧MRel ⟨M.w.putObj c ob,M.H.put b (.ob k' vs'),M.β⟩:=by
 have hown:M.own c:= .inr ⟨b,_,o,n,hb,hβ⟩
 have s:qae M ⟨M.w.putObj c ob,M.H.put b (.ob k' vs'),M.β⟩:=by
  refine⟨rfl,rfl,rfl,by simp,fun c' hc' ho=>⟨World.putObj_heap_other (fun e=>ho (e ▸hown)),?_⟩,fun _ h=> .inl h,fun b' blk' hA' hb'=>?_,rfl,fun c' hc'=>World.putObj_heap_other (fun e=>h.odis b _ c o n hb hβ (e ▸hc'))⟩
  ·rintro(hO | ⟨b',blk,o'',n'',hb',hc''⟩)
   ·exact ho (.inl hO)
   by_cases e:b'=b
   ·subst e
    rw [hβ] at hc''
    cases hc''
    exact ho hown
   ·simp only [AH.put,e,if_false] at hb'
    exact ho (.inr ⟨b',blk,o'',n'',hb',hc''⟩)
  ·by_cases e:b'=b
   ·subst e
    simp only [AH.put,if_true,Option.some.injEq] at hb'
    subst hb'
    exact⟨_,hb,rfl,hk,Nat.le_refl _,fun _=>⟨rfl,rfl⟩⟩
   ·simp only [AH.put,e,if_false] at hb'
    exact⟨blk',hb',rfl,rfl,Nat.le_refl _,fun _=>⟨rfl,rfl⟩⟩
 refine⟨s,h.change s b (.inr rfl) ?_ ?_ ?_ ?_ ?_ ?_⟩
 ·intro b' e;simp [AH.put,e]
 ·intro b' e;rfl
 ·intro b' blk c' o'' n'' e hb' hc'
  exact World.putObj_heap_other (fun e2=>e (h.inj b' b blk _ c o'' n'' o n hb' hb (e2 ▸hc') hβ))
 ·intro blk' hb'
  simp only [AH.put,if_true,Option.some.injEq] at hb'
  subst hb'
  refine⟨c,o,n,hβ,ob,us,World.putObj_heap_same (h.lt hown),ho,hl,fun i x v hi hv=>(hr i x v hi hv).step s⟩
 ·intro blk' c' o'' n'' hb' hc' b' blk o3 n3 e hb'' hc''
  simp only at hc'
  rw [hβ] at hc'
  cases hc'
  exact e (h.inj b' b blk _ c o3 n3 o n hb'' hb hc'' hβ)
 ·intro blk' c' o'' n'' _ hc' hO
  simp only at hc'
  rw [hβ] at hc'
  cases hc'
  exact h.odis b _ c o n hb hβ hO
theorem mem_drop {M:Mem} (h:MRel M) {b:Nat} {blk:IBlk} {c o n:Nat} (hb:M.H.G b=some blk) (hβ:M.β b=some (c,o,n)) (ob:Obj):
  qae M ⟨M.w.putObj c ob,⟨M.H.A,fun k=>if k=b then none else M.H.G k,M.H.O⟩,M.β⟩∧MRel ⟨M.w.putObj c ob,⟨M.H.A,fun k=>if k=b then none else M.H.G k,M.H.O⟩,M.β⟩:=by
 have hown:M.own c:= .inr ⟨b,_,o,n,hb,hβ⟩
 have s:qae M ⟨M.w.putObj c ob,⟨M.H.A,fun k=>if k=b then none else M.H.G k,M.H.O⟩,M.β⟩:=by
  refine⟨rfl,rfl,rfl,by simp,fun c' hc' ho=>⟨World.putObj_heap_other (fun e=>ho (e ▸hown)),?_⟩,fun _ h=>h,fun b' blk' hA' hb'=>?_,rfl,fun c' hc'=>World.putObj_heap_other (fun e=>h.odis b _ c o n hb hβ (e ▸hc'))⟩
  ·rintro(hO | ⟨b',blk,o'',n'',hb',hc''⟩)
   ·exact ho (.inl hO)
   by_cases e:b'=b
   ·simp [e] at hb'
   ·simp only [e,if_false] at hb'
    exact ho (.inr ⟨b',blk,o'',n'',hb',hc''⟩)
  ·by_cases e:b'=b
   ·simp [e] at hb'
   ·simp only [e,if_false] at hb'
    exact⟨blk',hb',rfl,rfl,Nat.le_refl _,fun _=>⟨rfl,rfl⟩⟩
 refine⟨s,h.change s b (h.dom b _ hb) ?_ ?_ ?_ ?_ ?_ ?_⟩
 ·intro b' e;simp [e]
 ·intro b' e;rfl
 ·intro b' blk c' o'' n'' e hb' hc'
  exact World.putObj_heap_other (fun e2=>e (h.inj b' b blk _ c o'' n'' o n hb' hb (e2 ▸hc') hβ))
 ·intro blk' hb';simp at hb'
 ·intro blk' c' o'' n'' hb';simp at hb'
 ·intro blk' c' o'' n'' hb';simp at hb'
/-! ### an object that another function owns turns -/
def Mem.setO (M:Mem) (c:Nat) (ob:Obj):Mem:=⟨M.w.putObj c ob,M.H,M.β⟩
theorem VRel.setO {M:Mem} {c:Nat} {ob:Obj} (hc:M.H.O c) {x:IV} {v:Value} (h:VRel M x v):VRel (M.setO c ob) x v:=by
 induction h with
 | p x v h=>exact .p x v (h.step (by simp [Mem.setO]) fun c' _ ho=>⟨World.putObj_heap_other (fun e=>ho (.inl (e ▸hc))),ho⟩)
 | ref b g off len v hA hv h=>exact .ref b g off len v hA hv h
 | ptr b g r j v hA hv h=>exact .ptr b g r j v hA hv h
 | mp b v hA hv h=>exact .mp b v hA hv h
 | clo fn first cap vf vc hf hc rf rc i1 i2=>exact .clo fn first cap vf vc hf hc i1 i2
 | agg cs vs hl h1 r ih=>exact .agg cs vs hl h1 ih
 | tup cs vs hl r ih=>exact .tup cs vs hl ih
 | dead v=>exact .dead v
theorem BRel.setO {M:Mem} {c:Nat} {ob:Obj} (hc:M.H.O c) {b:Nat} {blk:IBlk} (hd: ∀o n,M.β b≠some (c,o,n)) (hr:BRel M b blk):BRel (M.setO c ob) b blk:=by
 have hw: ∀c' o n,M.β b=some (c',o,n)→(M.setO c ob).w.heap[c']? =M.w.heap[c']? :=fun c' o n e=>World.putObj_heap_other (fun e2=>hd o n (e2 ▸e))
 cases blk with
 | arr sz gen rows=>
   obtain⟨r1,r2,r3⟩:=hr
   refine⟨r1,r2,fun c' o n hc'=>?_⟩
   obtain⟨cs,ty,q1,q2,q3,q4,q5⟩:=r3 c' o n hc'
   refine⟨cs,ty,(hw c' o n hc').trans q1,q2,q3,q4,fun i row j x hi hj=>?_⟩
   obtain⟨v,v1,v2,v3⟩:=q5 i row j x hi hj
   exact⟨v,v1,v2,v3.setO hc⟩
 | mp es=>
   obtain⟨c',o,n,hc',es',clock,q1,q2,q3⟩:=hr
   refine⟨c',o,n,hc',es',clock,(hw c' o n hc').trans q1,q2,fun i k x hi=>?_⟩
   obtain⟨en,e1,e2,e3⟩:=q3 i k x hi
   exact⟨en,e1,e2,e3.setO hc⟩
 | ob k vs=>
   obtain⟨c',o,n,hc',ob',us,q1,q2,q3,q4⟩:=hr
   exact⟨c',o,n,hc',ob',us,(hw c' o n hc').trans q1,q2,q3,fun i x v hi hv=>(q4 i x v hi hv).setO hc⟩
theorem MRel.setO {M:Mem} {c:Nat} {ob:Obj} (hc:M.H.O c) (h:MRel M):MRel (M.setO c ob):=
 ⟨h.dom,fun b blk hb=>(h.blk b blk hb).setO hc fun o n e=>h.odis b blk c o n hb e hc,h.inj,fun c' hc'=>(by simpa [Mem.setO] using h.olt c' hc'),h.odis⟩
theorem qae.setO {M M2:Mem} {c:Nat} {ob:Obj} (hc:M.H.O c) (hM:MRel M) (s:qae M M2):qae (M.setO c ob) (M2.setO c ob):=by
 refine⟨s.os,s.tape,s.output,by simpa [Mem.setO] using s.size,fun c' hc' ho=>?_,s.dom,s.comp,s.oeq,fun c' hc'=>?_⟩
 ·have h1:c' < M.w.heap.size:=by simpa [Mem.setO] using hc'
  obtain⟨e1,e2⟩:=s.keep c' h1 ho
  have hne:c'≠c:=fun e=>ho (.inl (e ▸hc))
  refine⟨?_,e2⟩
  simp only [Mem.setO]
  rw [World.putObj_heap_other hne,World.putObj_heap_other hne,e1]
 ·by_cases e:c'=c
  ·subst e
   have h1:=hM.olt c' hc
   simp only [Mem.setO]
   rw [World.putObj_heap_same h1,World.putObj_heap_same (Nat.lt_of_lt_of_le h1 s.size)]
  ·simp only [Mem.setO]
   rw [World.putObj_heap_other e,World.putObj_heap_other e,s.ofix c' hc']
theorem HRel.setO {M:Mem} {c:Nat} {ob:Obj} {nx:Nat} {m:List (Nat × IBlk)} (hc:M.H.O c) (h:HRel nx m M):HRel nx m (M.setO c ob):=⟨h.rel.setO hc,h.A,h.G⟩
theorem SRel.setO {M:Mem} {c:Nat} {ob:Obj} {S:qaa} {a:Act} (hc:M.H.O c) (hd:S.d= []) (h:SRel h0 S M a):SRel h0 S (M.setO c ob) a:=by
 refine⟨h.heap.setO hc,h.size,fun i x hi=>?_,?_⟩
 ·obtain⟨v,h1,h2⟩:=h.slot i x hi
  exact⟨v,h1,h2.setO hc⟩
 ·have:=h.defs
  rw [hd] at this ⊢
  cases hds:a.defers with
  | nil=>trivial
  | cons d ds=>rw [hds] at this;exact this.elim
/-! ### a round -/
theorem qhO {R:IV→Value→Prop}: ∀(ps:List Nat) (zs:List IV) (us:List Value) (s:List (Nat × IV)) (tm:Array Value),us.length=zs.length→
  (∀(i:Nat) (x:IV) (v:Value),zs[i]? =some x→us[i]? =some v→R x v)→(∀t∈ps,t < tm.size)→(∀t x,look s t=some x→ ∃v,tm[t]? =some v∧R x v)→
  ∀t x,look ((ps.zip zs).reverse++s) t=some x→ ∃v,((ps.zip us).foldl (fun tm p=>tm.setIfInBounds p.1 p.2) tm)[t]? =some v∧R x v
 | [],_,_,_,_,_,_,_,hs,t,x,h=>by simpa using hs t x (by simpa using h)
 | _::_, [], [],_,_,_,_,_,hs,t,x,h=>by simpa using hs t x (by simpa using h)
 | _::_, [],_::_,_,_,hl,_,_,_,_,_,_=>by simp at hl
 | _::_,_::_, [],_,_,hl,_,_,_,_,_,_=>by simp at hl
 | p::ps,z::zs,u::us,s,tm,hl,hr,hp,hs,t,x,h=>by
   simp only [List.zip_cons_cons,List.reverse_cons,List.append_assoc,List.singleton_append] at h
   simp only [List.zip_cons_cons,List.foldl_cons]
   refine qhO ps zs us ((p,z)::s) (tm.setIfInBounds p u) (by simpa using hl) (fun i x v hi hv=>hr (i+1) x v (by simpa using hi) (by simpa using hv)) (fun t ht=>by simpa using hp t (List.mem_cons_of_mem _ ht)) ?_ t x h
   intro t x hx
   simp only [look] at hx
   split at hx
   ·rename_i e
    cases hx
    subst e
    exact⟨u,by rw [Array.getElem?_setIfInBounds_self_of_lt (hp _ (List.mem_cons_self ..))],hr 0 _ _ rfl rfl⟩
   ·rename_i e
    obtain⟨v,h1,h2⟩:=hs t x hx
    exact⟨v,by rw [Array.getElem?_setIfInBounds_ne e];exact h1,h2⟩
theorem qjh: ∀(l:List (Nat × Value)) (tm:Array Value),(l.foldl (fun tm p=>tm.setIfInBounds p.1 p.2) tm).size=tm.size
 | [],_=>rfl
 | p::l,tm=>by simp only [List.foldl_cons];rw [qjh l];simp
theorem qlt {R:IV→Value→Prop} {tm:Array Value}: ∀(tl:List Nat) (vs:List IV) (us:List Value),us.length=vs.length→(∀(i:Nat) (t:Nat) (v:Value),tl[i]? =some t→us[i]? =some v→tm[t]? =some v)→
  (∀(i:Nat) (x:IV) (v:Value),vs[i]? =some x→us[i]? =some v→R x v)→ ∀t x,look (tl.zip vs) t=some x→ ∃v,tm[t]? =some v∧R x v
 | [],_,_,_,_,_,t,x,h=>by simp [look] at h
 | _::_, [],_,_,_,_,t,x,h=>by simp [look] at h
 | _::_,_::_, [],hl,_,_,_,_,_=>by simp at hl
 | a::tl,y::vs,u::us,hl,h1,h2,t,x,h=>by
   simp only [List.zip_cons_cons,look] at h
   split at h
   ·rename_i e
    cases h
    subst e
    exact⟨u,h1 0 _ _ rfl rfl,h2 0 _ _ rfl rfl⟩
   ·exact qlt tl vs us (by simpa using hl) (fun i t v hi hv=>h1 (i+1) t v (by simpa using hi) (by simpa using hv)) (fun i x v hi hv=>h2 (i+1) x v (by simpa using hi) (by simpa using hv)) t x h
def qeE (n:Nat) (tl ps:List Nat) (vs zs:List IV) (nx:Nat):qaa:=⟨n,(ps.zip zs).reverse++tl.zip vs, [],nx, []⟩
def nobK (b:Nat) (m:List (Nat × IBlk)):Prop:= ∀p∈m,qbu (·≠b) p.2
def qln:Exit→Option (Option Code)
 | .normal=>some none
 | .ret=>some (some .ret)
 | .exit id=>some (some (.exit id))
 | .goto l=>some (some (.goto l))
 | _=>none
theorem qpK {b:Nat} {m:List (Nat × IBlk)} (h:nobK b m) {k:Nat} {blk:IBlk} (hk:look m k=some blk):qbu (·≠b) blk:=h _ (qaD hk)
theorem qoC {all:Array Oper} {o:Oper} {r:List Oper} {S:qaa} {Q:Exit→qaa→Prop} {f:Operand} {args:List Operand} {ts:Array TypeId} {b n:Nat} {tl ps:List Nat} {as bo:Code} {vs zs:List IV}
  (ho:o.op= .call {callee:= .value f,args:=⟨args⟩,argTypes:=ts}) (hw:qai all S.s o=some true) (hf:ev S.s f=some (.mp b)) (hb:look (S.l++h0.m) b=some (.ob (.lp n tl ps as bo none) vs))
  (ha:qbr (ev S.s) args=some zs) (hl:zs.length=ps.length) (hps: ∀t∈ps,t < n) (hna:ndC as=true) (hnb:ndC bo=true) (hd:qaE S o.dst=true)
  (h:qbd P ⟨S.nx,outK b (S.l++h0.m)⟩ as (qeE n tl ps vs zs S.nx) fun e S2=>e= .normal∧S2.d= []∧qbd P ⟨S.nx,outK b (S.l++h0.m)⟩ bo S2 fun e S3=>
   nobK b (S3.l++outK b (S.l++h0.m))∧S.nx≤S3.nx∧(match qln e with
    | some none=>IOps P h0 all r (S.put o.dst (scb true) S3.nx S3.l) Q
    | some (some j)=>IOps P h0 all r (S.put o.dst (scb false) S3.nx ((b, .ob (.lp n tl ps as bo (some j)) vs)::S3.l)) Q
    | none=>False)):IOps P h0 all (o::r) S Q:=by
 intro M0 hM0 M a hs hr ro hro
 have hM:=hr.heap.rel
 have hG:M.H.G b=some (.ob (.lp n tl ps as bo none) vs):=by rw [hr.heap.G];exact hb
 have hAb:=hM.dom _ _ hG
 obtain⟨c,oo,nn,hβ,ob,us,q1,⟨fn,tmps,D,rfl,qn,ql,qt⟩,q3,q4⟩:=hM.blk b _ hG
 have hown:M.own c:= .inr ⟨b,_,oo,nn,hG,hβ⟩
 have hc:=hM.lt hown
 -- the call, as the model has it
 have hv:=qaH hr.slot hf
 have ef:a.eval f= .func (.yield c) #[] #[]:=by
  generalize a.eval f=q at hv
  cases hv with
  | mp b v hA hv h=>
    obtain⟨_,c',o',n',g1,g2⟩:=h _ hG
    rw [hβ] at g1;cases g1
    exact g2
 obtain⟨l1,l2⟩:=qbo (M:=M) (a:=a) ha fun y _ z hz=>qaH hr.slot hz
 have hrun:(execOp a.eval o).run P M.w= .ok (.round c fn ((ps.zip (args.map a.eval)).foldl (fun tm p=>tm.setIfInBounds p.1 p.2) tmps) as bo) M.w:=by
  have hy:=run_yield (P:=P) (w:=M.w) (args:=⟨args.map a.eval⟩) q1 (by simp only [List.size_toArray];omega)
  simp only [execOp,ho,resolve,ef,Deferred.ofValue,Sem.run_bind,Sem.run_pure,Result.andThen_ok,invoke]
  simp only [List.append_toArray,List.nil_append,Array.append_empty,List.map_toArray,Array.empty_append]
  rw [hy]
  simp [List.zip_toArray]
 refine wpListIn_step fun K hK=>?_
 rw [if_pos (qa4 hr hw)]
 have hnd:ndOp o=true:=by unfold ndOp;rw [ho]
 refine⟨fun _ _=>trivial,?_⟩
 rw [show o.semAt (Wd ro).round a.eval=execOp a.eval o from qlT (.inr hnd),hrun]
 refine⟨fun h=>(by cases h),roundIn_of_wpIn trivial ?_⟩
 -- the memory that the round is given
 let Ma:Mem:=⟨M.w,⟨M.H.A,fun k=>if k=b then none else M.H.G k,fun x=>M.H.O x∨x=c⟩,M.β⟩
 have aOc:Ma.H.O c:= .inr rfl
 have own_a: ∀x,Ma.own x→M.own x:=by
  rintro x ((h | rfl) | ⟨k,blk,o',n',h1,h2⟩)
  ·exact .inl h
  ·exact hown
  ·simp only [Ma] at h1 h2
   split at h1
   ·cases h1
   ·exact .inr ⟨k,blk,o',n',h1,h2⟩
 have rel_v: ∀ {x:IV} {v:Value},VRel M x v→VRel Ma x v:=by
  intro x v hx
  induction hx with
  | p x v h=>exact .p x v (h.own' own_a)
  | ref b' g off len v hA hv h=>exact .ref b' g off len v hA hv fun blk hblk=>h blk (by simp only [Ma] at hblk;split at hblk;cases hblk;exact hblk)
  | ptr b' g r j v hA hv h=>exact .ptr b' g r j v hA hv fun blk hblk=>h blk (by simp only [Ma] at hblk;split at hblk;cases hblk;exact hblk)
  | mp b' v hA hv h=>exact .mp b' v hA hv fun blk hblk=>h blk (by simp only [Ma] at hblk;split at hblk;cases hblk;exact hblk)
  | clo fn first cap vf vc hf hc rf rc i1 i2=>exact .clo fn first cap vf vc hf hc i1 i2
  | agg cs vs hl h1 r ih=>exact .agg cs vs hl h1 ih
  | tup cs vs hl r ih=>exact .tup cs vs hl ih
  | dead v=>exact .dead v
 have Ga: ∀k,Ma.H.G k=look (outK b (S.l++h0.m)) k:=by
  intro k
  rw [qdr]
  simp only [Ma]
  split
  ·rfl
  ·exact hr.heap.G k
 have Ga_b:Ma.H.G b=none:=by simp [Ma]
 have rel_a:MRel Ma:=by
  refine⟨fun k blk hk=>?_,fun k blk hk=>?_,fun k k' blk blk' c' o1 n1 o2 n2 h1 h2 c1 c2=>?_,fun x hx=>?_,fun k blk c' o1 n1 h1 c1 hO=>?_⟩
  ·simp only [Ma] at hk;split at hk;cases hk;exact hM.dom k blk hk
  ·simp only [Ma] at hk
   split at hk
   ·cases hk
   ·rename_i hne
    have hr0:=hM.blk k blk hk
    cases blk with
    | arr sz gen rows=>
      obtain⟨r1,r2,r3⟩:=hr0
      refine⟨r1,r2,fun c' o' n' hc'=>?_⟩
      obtain⟨cs,ty,p1,p2,p3,p4,p5⟩:=r3 c' o' n' hc'
      refine⟨cs,ty,p1,p2,p3,p4,fun i row j x hi hj=>?_⟩
      obtain⟨v,v1,v2,v3⟩:=p5 i row j x hi hj
      exact⟨v,v1,v2,rel_v v3⟩
    | mp es=>
      obtain⟨c',o',n',hc',es',clock,p1,p2,p3⟩:=hr0
      refine⟨c',o',n',hc',es',clock,p1,p2,fun i k x hi=>?_⟩
      obtain⟨en,e1,e2,e3⟩:=p3 i k x hi
      exact⟨en,e1,e2,rel_v e3⟩
    | ob k vs=>
      obtain⟨c',o',n',hc',ob',us',p1,p2,p3,p4⟩:=hr0
      exact⟨c',o',n',hc',ob',us',p1,p2,p3,fun i x v hi hv=>rel_v (p4 i x v hi hv)⟩
  ·simp only [Ma] at h1 h2
   split at h1
   ·cases h1
   ·split at h2
    ·cases h2
    ·exact hM.inj k k' blk blk' c' o1 n1 o2 n2 h1 h2 c1 c2
  ·rcases hx with hx | rfl
   ·exact hM.olt x hx
   ·exact hc
  ·simp only [Ma] at h1
   split at h1
   ·cases h1
   ·rename_i hne
    rcases hO with hO | rfl
    ·exact hM.odis k blk c' o1 n1 h1 c1 hO
    ·exact hne (hM.inj k b blk _ c' o1 n1 oo nn h1 hG c1 hβ)
 have hRa:HRel S.nx (outK b (S.l++h0.m)) Ma:=⟨rel_a,hr.heap.A,Ga⟩
 -- the assignments
 have hSa:SRel ⟨S.nx,outK b (S.l++h0.m)⟩ (qeE n tl ps vs zs S.nx) Ma {tmps:=(ps.zip (args.map a.eval)).foldl (fun tm p=>tm.setIfInBounds p.1 p.2) tmps,defers:= []}:=by
  refine⟨by simpa [qeE] using hRa,by simp only [qeE];rw [qjh];exact qn,fun t x hx=>?_,trivial⟩
  exact qhO ps zs (args.map a.eval) (tl.zip vs) tmps l1 (fun i x v hi hv=>rel_v (l2 i x v hi hv)) (fun t ht=>by rw [qn];exact hps t ht)
   (qlt tl vs us q3 (fun i t v hi hv=>qt i t v hi hv) fun i x v hi hv=>rel_v (q4 i x v hi hv)) t x hx
 refine wpIn_mono (h Ma hRa Ma _ (.refl Ma) hSa (some c) (.inr hna)) ?_
 rintro e a1 w1 ⟨M2,S2,rfl,st2,hS2,rfl,hd2,hbody⟩
 have O2:M2.H.O=Ma.H.O:=st2.oeq
 have c2:M2.w.heap[c]? =M.w.heap[c]? :=st2.ofix c aOc
 have aO2:M2.H.O c:=by rw [O2];exact aOc
 refine⟨_,run_beginRound (c2.trans q1) rfl,?_⟩
 -- the body
 have st3:=st2.setO (ob:= .loop {state:= .busy,pending:=none,fn,tmps,params:=⟨ps⟩,assign:=as,body:=bo,defers:=D}) aOc rel_a
 refine wpIn_mono (hbody (Ma.setO c _) (hRa.setO aOc) (M2.setO c (.loop {state:= .busy,pending:=none,fn,tmps,params:=⟨ps⟩,assign:=as,body:=bo,defers:=D})) a1 st3 (hS2.setO aO2 hd2) (some c) (.inr hnb)) ?_
 rintro e a2 w2 ⟨M4,S4,rfl,st4,hS4,hno,hnx,hq⟩
 have O4:M4.H.O=Ma.H.O:=st4.oeq
 have c4:M4.w.heap[c]? =some (.loop {state:= .busy,pending:=none,fn,tmps,params:=⟨ps⟩,assign:=as,body:=bo,defers:=D}):=
  (st4.ofix c aOc).trans (World.putObj_heap_same hc)
 have aO4:M4.H.O c:=by rw [O4];exact aOc
 have G4:M4.H.G b=none:=by
  cases hg:M4.H.G b with
  | none=>rfl
  | some blk=>
    obtain⟨blk0,g0,_⟩:=st4.comp b blk hAb hg
    simp only [Mem.setO] at g0
    rw [Ga_b] at g0;cases g0
 have sz4:M.w.heap.size≤M4.w.heap.size:=by have:=st4.size;simpa [Mem.setO,Ma] using this
 have key: ∀(pend:Option Code) (ob:Obj),ob= .loop {state:=(match pend with | none=> .ready | some _=> .done),pending:=pend,fn,tmps,params:=⟨ps⟩,assign:=as,body:=bo,defers:=D}→
   ∃M5:Mem,M5.w=M4.w.putObj c ob∧qae M M5∧(∀k,M5.H.G k=if k=b then some (.ob (.lp n tl ps as bo pend) vs) else M4.H.G k)∧MRel M5∧(∀k,M5.H.A k↔M4.H.A k):=by
  intro pend ob hob
  let M5:Mem:=⟨M4.w.putObj c ob,⟨M4.H.A,fun k=>if k=b then some (.ob (.lp n tl ps as bo pend) vs) else M4.H.G k,M.H.O⟩,fun k=>if k=b then M.β b else M4.β k⟩
  have own5: ∀x,M5.own x→M4.own x:=by
   rintro x (hO | ⟨k,blk,o',n',h1,h2⟩)
   ·exact .inl (by rw [O4];exact .inl hO)
   ·by_cases e:k=b
    ·simp only [M5,e,if_true] at h1 h2
     rw [hβ] at h2
     cases h2
     exact .inl aO4
    ·simp only [M5,e,if_false] at h1 h2
     exact .inr ⟨k,blk,o',n',h1,h2⟩
  have st5:qae M M5:=by
   refine⟨st4.os,st4.tape,st4.output,by simpa [M5] using sz4,fun x hx hno'=>?_,fun k hk=>st4.dom k hk,fun k blk' hA hk=>?_,rfl,fun x hx=>?_⟩
   ·have hne:x≠c:=fun e=>hno' (e ▸hown)
    have h1:=st4.keep x (by simpa [Mem.setO,Ma] using hx) (fun ho=>hno' (own_a x ho))
    refine⟨?_,fun ho=>h1.2 (own5 x ho)⟩
    simp only [M5]
    rw [World.putObj_heap_other hne,h1.1]
    exact World.putObj_heap_other hne
   ·by_cases e:k=b
    ·subst e
     simp only [M5,if_true,Option.some.injEq] at hk
     subst hk
     exact⟨_,hG,rfl,rfl,Nat.le_refl _,fun _=>⟨by simp [M5],rfl⟩⟩
    ·simp only [M5,e,if_false] at hk ⊢
     obtain⟨blk,g0,g1,g2,g3,g4⟩:=st4.comp k blk' hA hk
     simp only [Mem.setO,Ma,e,if_false] at g0
     exact⟨blk,g0,g1,g2,g3,g4⟩
   ·have hne:x≠c:=fun e=>hM.odis b _ c oo nn hG hβ (e ▸hx)
    have h1:=st4.ofix x (.inl hx)
    simp only [M5]
    rw [World.putObj_heap_other hne,h1]
    exact World.putObj_heap_other hne
  have al:qg7 (·≠b) (M4.setO c ob) M5:=by
   refine⟨rfl,fun k _ h=>h,fun k hk=>by simp [M5,Mem.setO,hk],fun k hk=>by simp [M5,Mem.setO,hk],fun x hx=>own5 x hx⟩
  have r4:=hS4.heap.rel.setO (ob:=ob) aO4
  refine⟨M5,rfl,st5,fun k=>rfl,⟨fun k blk hk=>?_,fun k blk hk=>?_,fun k k' blk blk' c' o1 n1 o2 n2 h1 h2 c1 c2=>?_,fun x hx=>?_,fun k blk c' o1 n1 h1 c1 hO=>?_⟩,fun k=>Iff.rfl⟩
  ·by_cases e:k=b
   ·subst e;exact st4.dom k hAb
   ·simp only [M5,e,if_false] at hk;exact hS4.heap.rel.dom k blk hk
  ·by_cases e:k=b
   ·subst e
    simp only [M5,if_true,Option.some.injEq] at hk
    subst hk
    refine⟨c,oo,nn,by simp [M5,hβ],ob,us,?_,⟨fn,tmps,D,hob,qn,ql,qt⟩,q3,fun i x v hi hv=>(q4 i x v hi hv).step st5⟩
    exact World.putObj_heap_same (Nat.lt_of_lt_of_le hc sz4)
   ·simp only [M5,e,if_false] at hk
    refine BRel.alike al e (r4.blk k blk hk) ?_
    exact qpK hno (by rw [←hS4.heap.G];exact hk)
  ·by_cases e1:k=b<;>by_cases e2:k'=b
   ·rw [e1,e2]
   ·simp only [M5,e1,e2,if_true,if_false] at h1 h2 c1 c2
    rw [hβ] at c1;cases c1
    exact absurd aO4 (hS4.heap.rel.odis k' blk' c o2 n2 h2 c2)
   ·simp only [M5,e1,e2,if_true,if_false] at h1 h2 c1 c2
    rw [hβ] at c2;cases c2
    exact absurd aO4 (hS4.heap.rel.odis k blk c o1 n1 h1 c1)
   ·simp only [M5,e1,e2,if_false] at h1 h2 c1 c2
    exact hS4.heap.rel.inj k k' blk blk' c' o1 n1 o2 n2 h1 h2 c1 c2
  ·have:=Nat.lt_of_lt_of_le (hM.olt x hx) sz4
   simpa [M5] using this
  ·by_cases e:k=b
   ·simp only [M5,e,if_true] at h1 c1
    rw [hβ] at c1;cases c1
    exact hM.odis b _ c oo nn hG hβ hO
   ·simp only [M5,e,if_false] at h1 c1
    exact hS4.heap.rel.odis k blk c' o1 n1 h1 c1 (by rw [O4];exact .inl hO)
 have lb:look S4.l b=none:=by
  have:=hS4.heap.G b
  rw [G4,qad] at this
  cases hq':look S4.l b with
  | none=>rfl
  | some x=>rw [hq'] at this;cases this
 have heap5: ∀(M5:Mem) (pend:Option Code) (W:List (Nat × IBlk)),MRel M5→(∀k,M5.H.A k↔M4.H.A k)→(∀k,M5.H.G k=if k=b then some (.ob (.lp n tl ps as bo pend) vs) else M4.H.G k)→
   (look (W++S.l++h0.m) b=some (.ob (.lp n tl ps as bo pend) vs))→(∀k,k≠b→look W k=look S4.l k)→HRel S4.nx (W++S.l++h0.m) M5:=by
  intro M5 pend W r5 A5 G5 hWb hW
  refine⟨r5,fun k hk=>hS4.heap.A k ((A5 k).1 hk),fun k=>?_⟩
  rw [G5]
  by_cases e:k=b
  ·rw [if_pos e,e,hWb]
  ·rw [if_neg e,hS4.heap.G,List.append_assoc,qad,qad,hW k e,qdr,if_neg e]
 have fin: ∀(pend:Option Code) (ok:Bool) (W:List (Nat × IBlk)),ok=pend.isNone→(look (W++S.l++h0.m) b=some (.ob (.lp n tl ps as bo pend) vs))→(∀k,k≠b→look W k=look S4.l k)→
   IOps P h0 all r (S.put o.dst (scb ok) S4.nx W) Q→
   ∃v w',(Instr.endRound c pend).run P M4.w= .ok v w'∧K (a.put o.dst v) w':=by
  intro pend ok W hok hWb hW hq
  obtain⟨M5,e5,st5,G5,r5,A5⟩:=key pend _ rfl
  have he:=run_endRound (P:=P) pend c4
  refine⟨_,_,he,?_⟩
  have hfin:=hK _ _ (hq M0 hM0 M5 _ (hs.trans st5) (hr.step st5 hd (.p _ _ (.sc (.bool ok))) (heap5 M5 pend W r5 A5 G5 hWb hW)) ro hro.tl)
  rw [e5,hok] at hfin
  cases pend<;>exact hfin
 have plainW: ∀k,k≠b→look S4.l k=look S4.l k:=fun _ _=>rfl
 have consW: ∀(x:IBlk) k,k≠b→look ((b,x)::S4.l) k=look S4.l k:=fun x k e=>by simp only [look];rw [if_neg (fun h=>e h.symm)]
 cases e with
 | normal=>exact fin none true S4.l rfl (by rw [List.append_assoc,qad,lb];exact hb) plainW hq
 | ret=>exact fin (some .ret) false ((b,_)::S4.l) rfl (by simp only [List.cons_append,look,if_true]) (consW _) hq
 | exit id=>exact fin (some (.exit id)) false ((b,_)::S4.l) rfl (by simp only [List.cons_append,look,if_true]) (consW _) hq
 | goto l=>exact fin (some (.goto l)) false ((b,_)::S4.l) rfl (by simp only [List.cons_append,look,if_true]) (consW _) hq
 | panic ch=>exact hq.elim
 | outgrown=>exact hq.elim
/-! ### the statement -/
def ifnv:IV→Option (FuncId × List IV × List IV)
 | .p (.sc (.func (.func n) ⟨[]⟩ ⟨[]⟩))=>some (n, [], [])
 | .clo (.func n) first cap=>some (n,first,cap)
 | _=>none
theorem qqA {M:Mem} {x:IV} {v:Value} {n:FuncId} {first cap:List IV} (h:ifnv x=some (n,first,cap)) (hv:VRel M x v):
  ∃vf vc:List Value,v= .func (.func n) ⟨vf⟩ ⟨vc⟩∧vf.length=first.length∧vc.length=cap.length∧(∀(i:Nat) (x:IV) (v:Value),first[i]? =some x→vf[i]? =some v→VRel M x v)∧
   (∀(i:Nat) (x:IV) (v:Value),cap[i]? =some x→vc[i]? =some v→VRel M x v):=by
 unfold ifnv at h
 split at h
 ·cases h
  have:=hv.sc_inv
  subst this
  exact⟨[], [],rfl,rfl,rfl,fun i x v hi=>(by simp at hi),fun i x v hi=>(by simp at hi)⟩
 ·cases h
  cases hv with
  | clo fn first cap vf vc lf lc rf rc=>exact⟨vf,vc,rfl,lf,lc,rf,rc⟩
 ·cases h
theorem look_none0 {M0 M:Mem} (hM0:HRel h0.nx h0.m M0) (hs:qae M0 M) {b nx:Nat} (hA: ∀k,M.H.A k→k < nx) (hb:nx≤b):look h0.m b=none:=by
 cases h:look h0.m b with
 | none=>rfl
 | some blk=>
   have:=hM0.rel.dom b blk (by rw [hM0.G];exact h)
   have:=hA b (hs.dom b this)
   omega
def qfy (s:List (Nat × IV)):List Nat→List IV→Prop
 | [], []=>True
 | t::tl,x::vs=>look s t=some x∧qfy s tl vs
 | _,_=>False
theorem qhG {s:List (Nat × IV)}: ∀ {tl:List Nat} {vs:List IV},qfy s tl vs→tl.length=vs.length
 | [], [],_=>rfl
 | _::_,_::_,h=>by simp [qhG h.2]
 | [],_::_,h=>h.elim
 | _::_, [],h=>h.elim
theorem qeR {s:List (Nat × IV)}: ∀ {tl:List Nat} {vs:List IV},qfy s tl vs→ ∀(i:Nat) (t:Nat) (x:IV),tl[i]? =some t→vs[i]? =some x→look s t=some x
 | [],_,_,i,t,x,h,_=>by simp at h
 | _::_, [],h,_,_,_,_,_=>h.elim
 | _::tl,_::vs,h,0,t,x,h1,h2=>by simp at h1 h2;subst h1 h2;exact h.1
 | _::tl,_::vs,h,i+1,t,x,h1,h2=>qeR h.2 i t x (by simpa using h1) (by simpa using h2)
def qfe (S:qaa) (nx':Nat) (l':List (Nat × IBlk)):qaa:= {S with d:=qoG S.nx::S.d,nx:=nx',l:=outK (S.nx+1) (l'++(S.nx, .ob .df [])::S.l)}
theorem qiT {g:Operand} {ps tl:List Nat} {as bo:Code} {k:List It} {S:qaa} {Q:Exit→qaa→Prop} {x:IV} {gf:FuncId} {first cap vs:List IV}
  (hg:ev S.s g=some x) (hx:ifnv x=some (gf,first,cap)) (hfn:fnOk P gf=true) (hc:qfy S.s tl vs)
  (h:qa5 P gf (first++ [.mp (S.nx+1)]++cap) ⟨S.nx+2,(S.nx+1, .ob (.lp S.n tl ps as bo none) vs)::(S.nx, .ob .df [])::(S.l++h0.m)⟩ fun e nx' l'=>match e with
   | .ret _=> ∃n' tl' ps' as' bo' pend vs',look (l'++ [(S.nx+1, .ob (.lp S.n tl ps as bo none) vs)]) (S.nx+1)=some (.ob (.lp n' tl' ps' as' bo' pend) vs')∧(match pend with
     | none=>IRun P h0 k (qfe S nx' l') Q
     | some c=>IRun P h0 (.code c::k) (qfe S nx' l') Q)
   | .pan _=>False):IRun P h0 (.code (.rangeFunc g ⟨ps⟩ as bo)::k) S Q:=by
 intro M0 hM0 M a hs hr ro hro
 obtain rfl:ro=none:=hro.resolve_right (by intro h;cases h)
 have hM:=hr.heap.rel
 obtain⟨vf,vc,ev1,lf,lc,rf,rc⟩:=qqA hx (qaH hr.slot hg)
 have hA0: ¬M.H.A S.nx:=fun h=>Nat.lt_irrefl _ (hr.heap.A _ h)
 obtain⟨s1,r1⟩:=qfS hM S.nx hA0 (k:= .df) (vs:= []) (us:= []) (ob:= .deferred (some [])) ⟨rfl,rfl⟩ rfl (fun i x v hi=>by simp at hi)
 refine wpIn_rangeFunc ?_
 intro fn _
 let M1:Mem:=⟨M.w.alloc (.deferred (some [])),M.H.put S.nx (.ob .df []),putβ M.β S.nx (some (M.w.heap.size,0,0))⟩
 have hA1: ¬M1.H.A (S.nx+1):=by
  rintro(h | h)
  ·have:=hr.heap.A _ h;omega
  ·omega
 have hcl:=qhG hc
 obtain⟨s2,r2⟩:=qfS (M:=M1) r1 (S.nx+1) hA1 (k:= .lp S.n tl ps as bo none) (vs:=vs) (us:=tl.map fun t=>a.tmps.getD t undef)
  (ob:= .loop {state:= .ready,pending:=none,fn,tmps:=a.tmps,params:=⟨ps⟩,assign:=as,body:=bo,defers:=M.w.heap.size})
  ⟨fn,a.tmps,M.w.heap.size,rfl,hr.size,by simp,fun i t v hi hv=>by
   rw [List.getElem?_map,hi] at hv
   simp only [Option.map_some,Option.some.injEq] at hv
   have hlt:=qab hi
   obtain⟨u,u1,_⟩:=hr.slot t _ (qeR hc i t _ hi (List.getElem?_eq_getElem (show i < vs.length by omega)))
   rw [←hv,u1]
   simp only [Array.getD_eq_getD_getElem?,u1,Option.getD_some]⟩ (by simp [hcl]) (fun i x v hi hv=>by
   rw [List.getElem?_map] at hv
   have hlt:=qab hi
   have hti:=List.getElem?_eq_getElem (show i < tl.length by omega)
   rw [hti] at hv
   simp only [Option.map_some,Option.some.injEq] at hv
   obtain⟨u,u1,u2⟩:=hr.slot _ _ (qeR hc i _ x hti hi)
   simp only [Array.getD_eq_getD_getElem?,u1,Option.getD_some] at hv
   rw [←hv]
   exact u2.step s1)
 have hsz:M1.w.heap.size=M.w.heap.size+1:=by simp [M1]
 obtain⟨M2,hM2⟩: ∃M2:Mem,M2=⟨M1.w.alloc (.loop {state:= .ready,pending:=none,fn,tmps:=a.tmps,params:=⟨ps⟩,assign:=as,body:=bo,defers:=M.w.heap.size}),
  M1.H.put (S.nx+1) (.ob (.lp S.n tl ps as bo none) vs),putβ M1.β (S.nx+1) (some (M1.w.heap.size,0,0))⟩:=⟨_,rfl⟩
 rw [←hM2] at s2 r2
 have w2:M2.w=(M.w.alloc (.deferred (some []))).alloc (.loop {state:= .ready,pending:=none,fn,tmps:=a.tmps,params:=⟨ps⟩,assign:=as,body:=bo,defers:=M.w.heap.size}):=by rw [hM2]
 have β2:M2.β (S.nx+1)=some (M.w.heap.size+1,0,0):=by rw [hM2];simp [putβ,hsz]
 have β20:M2.β S.nx=some (M.w.heap.size,0,0):=by rw [hM2];simp [putβ,M1]
 have G2: ∀b,M2.H.G b=look ((S.nx+1, .ob (.lp S.n tl ps as bo none) vs)::(S.nx, .ob .df [])::(S.l++h0.m)) b:=by
  intro b
  rw [hM2]
  simp only [AH.put,M1,look]
  by_cases e1:b=S.nx+1
  ·rw [if_pos e1,if_pos e1.symm]
  ·rw [if_neg e1,if_neg (show ¬(S.nx+1=b) from fun h=>e1 h.symm)]
   by_cases e2:b=S.nx
   ·rw [if_pos e2,if_pos e2.symm]
   ·rw [if_neg e2,if_neg (show ¬(S.nx=b) from fun h=>e2 h.symm)];exact hr.heap.G b
 have A2: ∀b,M2.H.A b→b < S.nx+2:=by
  intro b hb
  rw [hM2] at hb
  rcases hb with (hb | hb) | hb
  ·have:=hr.heap.A b hb;omega
  ·omega
  ·omega
 have hR2:HRel (S.nx+2) ((S.nx+1, .ob (.lp S.n tl ps as bo none) vs)::(S.nx, .ob .df [])::(S.l++h0.m)) M2:=⟨r2,A2,G2⟩
 have s12:qae M M2:=s1.trans s2
 have A21:M2.H.A (S.nx+1):=r2.dom _ (.ob (.lp S.n tl ps as bo none) vs) (by rw [G2];simp only [look,if_true])
 have vy:VRel M2 (.mp (S.nx+1)) (.func (.yield (M.w.heap.size+1)) #[] #[]):=by
  refine .mp _ _ A21 ⟨2,_,rfl⟩ fun blk hb=>?_
  rw [G2] at hb
  simp only [look,if_true,Option.some.injEq] at hb
  subst hb
  exact⟨by simp [IBlk.isMp],_,_,_,β2,rfl⟩
 refine⟨M.w.heap.size+1, [{target:= .collected M.w.heap.size,args:=#[]}],M2.w, {target:= .fn (.func gf) ⟨vc⟩,args:=⟨vf++ [.func (.yield (M.w.heap.size+1)) #[] #[]]⟩},M2.w,gf,
  ⟨vf++ [.func (.yield (M.w.heap.size+1)) #[] #[]]++vc⟩,M2.w,?_,?_,fun _ _=>trivial,?_,fun h=>(by cases h),qk3 ?_⟩
 ·rw [w2];exact run_enterLoop_outer _ _ _ _ _
 ·simp only [resolve,rangeCall,ev1,Deferred.ofValue]
  simp [Act.eval]
 ·simp only [invoke]
  rw [qbW hfn]
  simp
 ·have hrel: ∀(i:Nat) (x:IV) (v:Value),(first++ [.mp (S.nx+1)]++cap)[i]? =some x→(vf++ [.func (.yield (M.w.heap.size+1)) #[] #[]]++vc)[i]? =some v→VRel M2 x v:=by
   refine qbG (by simp only [List.length_append,List.length_singleton,lf]) (qbG lf (fun i x v hi hv=>(rf i x v hi hv).step s12) ?_) fun i x v hi hv=>(rc i x v hi hv).step s12
   intro i x v hi hv
   cases i with
   | zero=>simp only [List.getElem?_cons_zero,Option.some.injEq] at hi hv;subst hi hv;exact vy
   | succ i=>simp at hi
  have hlen:(vf++ [Value.func (.yield (M.w.heap.size+1)) #[] #[]]++vc).length=(first++ [IV.mp (S.nx+1)]++cap).length:=by simp only [List.length_append,List.length_singleton,lf,lc]
  have hcall:=h M2 _ hR2 hlen hrel
  refine Calls.mono hcall ?_
  rintro e w' ⟨M3,nx',l',re,rfl,st3,hh3,he,hq⟩
  cases re with
  | pan ch=>exact hq.elim
  | ret x=>
    obtain⟨v,rfl,_⟩:=he
    obtain⟨n',tl',ps',as',bo',pend,vs',hlk,hq⟩:=hq
    have G3:M3.H.G (S.nx+1)=some (.ob (.lp n' tl' ps' as' bo' pend) vs'):=by
     rw [hh3.G,qad]
     rw [qad] at hlk
     cases hl:look l' (S.nx+1) with
     | some y=>rw [hl] at hlk;exact hlk
     | none=>rw [hl] at hlk;simp only [look,if_true] at hlk ⊢;exact hlk
    obtain⟨blk0,g0,_,_,_,g4⟩:=st3.comp _ _ A21 G3
    rw [G2] at g0
    simp only [look,if_true,Option.some.injEq] at g0
    subst g0
    have β3:M3.β (S.nx+1)=some (M.w.heap.size+1,0,0):=by rw [(g4 rfl).1];exact β2
    obtain⟨c,oo,nn,hβ,ob,us,q1,⟨fn',tmps',D',rfl,_⟩,_⟩:=hh3.rel.blk _ _ G3
    rw [β3] at hβ;cases hβ
    have hend:=run_endLoop (P:=P) q1 (by cases pend<;>simp)
    obtain⟨s4,r4⟩:=mem_drop hh3.rel G3 β3 (.loop {state:= .exhausted,pending:=pend,fn:=fn',tmps:=tmps',params:=⟨ps'⟩,assign:=as',body:=bo',defers:=D'})
    have st:=(hs.trans s12).trans (st3.trans s4)
    have hn0:look h0.m (S.nx+1)=none:=look_none0 hM0 hs hr.heap.A (Nat.le_succ _)
    have hS:SRel h0 (qfe S nx' l') ⟨M3.w.putObj (M.w.heap.size+1) (.loop {state:= .exhausted,pending:=pend,fn:=fn',tmps:=tmps',params:=⟨ps'⟩,assign:=as',body:=bo',defers:=D'}),⟨M3.H.A,fun k=>if k=S.nx+1 then none else M3.H.G k,M3.H.O⟩,M3.β⟩
      {a with defers:= [{target:= .collected M.w.heap.size,args:=#[]}]++a.defers}:=by
     refine⟨⟨r4,hh3.A,fun b=>?_⟩,hr.size,fun i y hi=>?_,?_,hr.defs.step (s12.trans (st3.trans s4))⟩
     ·simp only [qfe]
      rw [qad,qdr]
      by_cases e:b=S.nx+1
      ·rw [if_pos e,if_pos e];exact(by rw [e,hn0])
      ·rw [if_neg e,if_neg e,hh3.G,←qad,List.append_assoc,qad,qad]
       cases look l' b with
       | some y=>rfl
       | none=>simp only [look];rw [if_neg (fun h=>e h.symm)];rfl
     ·obtain⟨u,u1,u2⟩:=hr.slot i y hi
      exact⟨u,u1,u2.step (s12.trans (st3.trans s4))⟩
     ·have vm:VRel M2 (.mp S.nx) (hnd 4 M.w.heap.size):=by
       refine .mp _ _ (r2.dom _ (.ob .df []) (by rw [G2];simp [look])) ⟨4,_,rfl⟩ fun blk hb=>?_
       rw [G2] at hb
       simp only [look,Nat.succ_ne_self,if_true,if_false,Option.some.injEq] at hb
       subst hb
       exact⟨by simp [IBlk.isMp],_,_,_,β20,rfl⟩
      exact⟨S.nx,M.w.heap.size,rfl,rfl,vm.step (st3.trans s4)⟩
    refine⟨pend,_,hend,?_⟩
    cases pend with
    | none=>exact⟨_,qfe S nx' l',rfl,st,hS,hq⟩
    | some c=>exact hq M0 hM0 _ _ st hS none (.inl rfl)
/-! ### the end of a function that has such loops -/
def qlu:IDef→Option Nat
 | ⟨.yield _, [], [.mp b]⟩=>some b
 | _=>none
theorem qnb {x:IDef} {b:Nat} (h:qlu x=some b): ∃y,x=⟨.yield y, [], [.mp b]⟩:=by
 unfold qlu at h
 split at h
 ·cases h;exact⟨_,rfl⟩
 ·cases h
def dropMarks (h:IH):List IDef→List (Nat × IBlk)→Option (List (Nat × IBlk))
 | [],l=>some l
 | x::ds,l=>match qlu x with
   | some b=>match look l b with
     | some (.ob .df [])=>match Nat.ble h.nx b with
       | true=>dropMarks h ds (outK b l)
       | false=>none
     | _=>none
   | none=>none
theorem qfP {fn:Func} {R:Ending→World→Prop} {M0:Mem} (hM0:HRel h0.nx h0.m M0) {N nx:Nat} {s:List (Nat × IV)} {l1:List (Nat × IBlk)}: ∀(ds:List IDef) (l:List (Nat × IBlk)) (M:Mem) (a:Act),dropMarks h0 ds l=some l1→qae M0 M→SRel h0 ⟨N,s,ds,nx,l⟩ M a→
  (∀M':Mem,qae M0 M'→SRel h0 ⟨N,s, [],nx,l1⟩ M' {a with defers:= []}→LeavesInM (Wd none) 0 P fn a.tmps R [] .returning M'.w)→LeavesInM (Wd none) 0 P fn a.tmps R a.defers .returning M.w
 | [],l,M,a,hd,hs,hr,hk=>by
   simp only [dropMarks,Option.some.injEq] at hd
   subst hd
   have e:a.defers= []:=by
    have:=hr.defs
    cases hds:a.defers with
    | nil=>rfl
    | cons d ds=>rw [hds] at this;exact this.elim
   rw [e]
   refine hk M hs ⟨hr.heap,hr.size,hr.slot,trivial⟩
 | x::ds,l,M,a,hd,hs,hr,hk=>by
   unfold dropMarks at hd
   split at hd
   ·rename_i b e
    obtain⟨y,rfl⟩:=qnb e
    split at hd<;>try(cases hd;done)
    rename_i hlk
    split at hd<;>try(cases hd;done)
    rename_i hle
    have hdefs:=hr.defs
    cases hds:a.defers with
    | nil=>rw [hds] at hdefs;exact hdefs.elim
    | cons d ds2=>
      rw [hds] at hdefs
      obtain⟨hd1,hrest⟩:=hdefs
      obtain⟨b',D,e1,rfl,hv⟩:=hd1
      have eb:b=b':=by
       have:=congrArg IDef.args e1
       simpa [qoG] using this
      subst eb
      have hG:M.H.G b=some (.ob .df []):=by rw [hr.heap.G,qad,hlk]
      obtain⟨c,oo,nn,hβ,ob,us,q1,⟨_,rfl⟩,_⟩:=hr.heap.rel.blk b _ hG
      have hcD:c=D:=by
       cases hv with
       | mp b v hA hv h=>
         obtain⟨_,c',o',n',g1,g2⟩:=h _ hG
         rw [hβ] at g1;cases g1
         simp only [hnd,IBlk.isMp,Value.pointer.injEq,Option.some.injEq,Addr.mk.injEq] at g2
         exact g2.1.symm
      subst hcD
      obtain⟨s4,r4⟩:=mem_drop hr.heap.rel hG hβ (.deferred none)
      have hS:SRel h0 ⟨N,s,ds,nx,outK b l⟩ ⟨M.w.putObj c (.deferred none),⟨M.H.A,fun k=>if k=b then none else M.H.G k,M.H.O⟩,M.β⟩ {a with defers:=ds2}:=by
       refine⟨⟨r4,hr.heap.A,fun k=>?_⟩,hr.size,fun i y hi=>?_,hrest.step s4⟩
       ·simp only
        rw [qad,qdr]
        by_cases e:k=b
        ·rw [if_pos e,if_pos e]
         have:look h0.m k=none:=look_none0 hM0 (.refl M0) hM0.A (by rw [e];exact Nat.le_of_ble_eq_true hle)
         rw [this]
        ·rw [if_neg e,if_neg e,hr.heap.G,qad]
       ·obtain⟨u,u1,u2⟩:=hr.slot i y hi
        exact⟨u,u1,u2.step s4⟩
      refine⟨by simp, .inl ⟨c,_,rfl,run_takeDeferred q1,?_⟩⟩
      exact qfP hM0 ds (outK b l) _ {a with defers:=ds2} hd (hs.trans s4) hS fun M' st' h'=>hk M' st' h'
   ·cases hd
inductive FinM (P:Program) (fn:Func) (h:IH) (Q:IEnd→Nat→List (Nat × IBlk)→Prop):Exit→qaa→Prop where
 | ret (e:Exit) (S:qaa) (l1:List (Nat × IBlk)) (x y:IV) (ids:List Nat) (nx':Nat) (l':List (Nat × IBlk)) (he:e= .normal∨e= .ret) (hd:dropMarks h S.d S.l=some l1)
   (hx:ires P {S with d:= [],l:=l1} (l1++h.m) fn.results.toList=some x) (hl:qcl h ids {S with d:= [],l:=l1} x y nx' l') (hq:Q (.ret y) nx' l'):FinM P fn h Q e S
theorem qoy {f:FuncId} {fn:Func} {c:Code} {args:List IV} {h:IH} {Q:IEnd→Nat→List (Nat × IBlk)→Prop} (hf:P.funcs[f]? =some fn) (hb:fn.body=some c) (hn:args.length≤fn.ntmps)
  (hc:qbd P h c (start fn.ntmps args h) (FinM P fn h Q)):qa5 P f args h Q:=by
 intro M vs hM hl hr
 refine(callsIn_wide (n:=0)).1 (callsIn_of_wp_marks (F:=Wd none) (n:=0) hf hb trivial (wpIn_mono (hc M hM M {tmps:=(⟨vs⟩:Array Value)++Array.replicate (fn.ntmps - (⟨vs⟩:Array Value).size) undef,defers:= []} (.refl M) ⟨by simpa [start] using hM,?_,fun i x hi=>?_,trivial⟩ none (.inl rfl)) ?_))
 ·simp [start,hl];omega
 ·obtain⟨_,h2⟩:=qdq args 0 i x hi
  have hlt:=qab h2
  simp only [Nat.sub_zero] at h2 hlt
  refine⟨vs[i]'(by omega),?_,hr i x _ h2 (List.getElem?_eq_getElem (by omega))⟩
  simp only
  rw [Array.getElem?_append]
  simp only [List.size_toArray]
  rw [if_pos (by omega)]
  simp [List.getElem?_eq_getElem (show i < vs.length by omega)]
 ·rintro e a' w' ⟨M',S',rfl,st,hrel,hq⟩
  cases hq with
  | ret l1 x y ids nx' l' he hd hx hle hqq=>
    have key:LeavesInM (Wd none) 0 P fn a'.tmps (fun e w'=> ∃M' nx' l' r,M'.w=w'∧qae M M'∧HRel nx' (l'++h.m) M'∧qbF M' r e∧Q r nx' l') a'.defers .returning M'.w:=by
     refine qfP hM S'.d S'.l M' a' hd st hrel fun M2 st2 hS2=>?_
     obtain⟨v,v1,v2⟩:=run_ires (P:=P) hS2 hx
     obtain⟨M3,k1,k2,k3,k4⟩:=qb9 hle.sub hM st2 hS2
     exact⟨v,v1,M3,nx',l', .ret y,k1,k2,k3.heap,⟨v,rfl,k4 x y v v2 hle.fz hle.bel⟩,hqq⟩
    rcases he with rfl | rfl
    ·exact key
    ·exact key
/-! ### checked by computing -/
def noB (b:Nat):IV→Bool
 | .p _=>true
 | .ref c _ _ _=>!Nat.beq c b
 | .ptr c _ _ _=>!Nat.beq c b
 | .mp c=>!Nat.beq c b
 | .clo _ f c=>goN f && goN c
 | .agg cs=>goN cs
 | .tup cs=>goN cs
 | .dead=>true
where goN:List IV→Bool
 | []=>true
 | x::r=>noB b x && goN r
theorem nbeq {c b:Nat} (h:(!Nat.beq c b)=true):c≠b:=by
 rintro rfl
 simp at h
theorem noB_sound {b:Nat} (x:IV):noB b x=true→qbc (·≠b) x:=by
 apply IV.rec (motive_1:=fun x=>noB b x=true→qbc (·≠b) x) (motive_2:=fun l=>noB.goN b l=true→qaN (·≠b) l)
 ·intro x _;trivial
 ·intro c g off len hb;exact nbeq (by simpa only [noB] using hb)
 ·intro c g r j hb;exact nbeq (by simpa only [noB] using hb)
 ·intro c hb;exact nbeq (by simpa only [noB] using hb)
 ·intro fn f c i1 i2 hb
  simp only [noB,Bool.and_eq_true] at hb
  exact⟨i1 hb.1,i2 hb.2⟩
 ·intro cs ih hb;exact ih hb
 ·intro cs ih hb;exact ih hb
 ·intro _;trivial
 ·intro _;trivial
 ·intro x l i1 i2 hb
  simp only [noB.goN,Bool.and_eq_true] at hb
  exact⟨i1 hb.1,i2 hb.2⟩
theorem qfH {b:Nat}: ∀l:List IV,noB.goN b l=true→qaN (·≠b) l
 | [],_=>trivial
 | x::r,hb=>by simp only [noB.goN,Bool.and_eq_true] at hb;exact⟨noB_sound x hb.1,qfH r hb.2⟩
def noBb (b:Nat):IBlk→Bool
 | .arr _ _ rows=>rows.all (noB.goN b)
 | .mp es=>es.all fun e=>noB b e.2
 | .ob _ vs=>noB.goN b vs
theorem qoL {b:Nat} {blk:IBlk} (h:noBb b blk=true):qbu (·≠b) blk:=by
 cases blk with
 | arr sz g rows=>exact fun row hrow=>qfH row (List.all_eq_true.1 h row hrow)
 | mp es=>exact fun e he=>noB_sound e.2 (List.all_eq_true.1 h e he)
 | ob k vs=>exact qfH vs h
def nobB (b:Nat) (m:List (Nat × IBlk)):Bool:=m.all fun p=>noBb b p.2
theorem qoM {b:Nat} {m:List (Nat × IBlk)} (h:nobB b m=true):nobK b m:=fun p hp=>qoL (List.all_eq_true.1 h p hp)
theorem qjb {s:List (Nat × IV)}: ∀ {l:List (Nat × IV)},(∀p∈l,look s p.1=some p.2)→qfy s (l.map (·.1)) (l.map (·.2))
 | [],_=>trivial
 | p::r,h=>⟨h p (List.mem_cons_self ..),qjb fun q hq=>h q (List.mem_cons_of_mem _ hq)⟩
end Go.Idl
/-
 Walks over maps: each entry once, in any order.
-/
namespace Go.Idl
variable {P:Program} {h0:IH}
theorem qbD {w:World} {c:Nat} {o:Obj} (h:w.heap[c]? =some o) (hc:o.isCells=false:=by rfl):(getObj c).run P w= .ok o w:=by
 cases o<;>first | (cases hc;done) | simp [getObj,Sem.run,h]
theorem qj4 {w:World} {c:Nat} {o o':Obj} (h:w.heap[c]? =some o) (hc:o.isCells=false:=by rfl):(setObj c o').run P w= .ok () (w.putObj c o'):=by
 cases o<;>first | (cases hc;done) | simp [setObj,Sem.run,h,World.putObj]
theorem qoB {all:Array Oper} {o:Oper} {r:List Oper} {S:qaa} {Q:Exit→qaa→Prop} {t k e:TypeId} {x:Operand} {mb:Nat} {es:List (Value × IV)}
  (ho:o.op= .range t x) (hw:qai all S.s o=some true) (hx:ev S.s x=some (.mp mb)) (ht:P.underlying t=some (.map k e)) (hb:look (S.l++h0.m) mb=some (.mp es)) (hd:qaE S o.dst=true)
  (h:IOps P h0 all r (S.put o.dst (.mp S.nx) (S.nx+1) [(S.nx, .ob (.it es.length [] es.length) [.mp mb])]) Q):IOps P h0 all (o::r) S Q:=by
 intro M0 hM0 M a hs hr ro hro
 refine wpListW_step (hro.mem (List.mem_cons_self ..)) fun K hK=>?_
 rw [if_pos (qa4 hr hw)]
 have hG:M.H.G mb=some (.mp es):=by rw [hr.heap.G];exact hb
 obtain⟨c,oo,nn,hβ,es',clock,q1,⟨_,rfl⟩,_⟩:=hr.heap.rel.blk mb _ hG
 have hv:=qaH hr.slot hx
 have ex:a.eval x= .map (some c):=by
  generalize a.eval x=q at hv
  cases hv with
  | mp b v hA hv h=>
    obtain⟨_,c',o',n',g1,g2⟩:=h _ hG
    rw [hβ] at g1;cases g1
    exact g2
 have hA0: ¬M.H.A S.nx:=fun h=>Nat.lt_irrefl _ (hr.heap.A _ h)
 obtain⟨s1,r1⟩:=qfS hr.heap.rel S.nx hA0 (k:= .it es.length [] es.length) (vs:= [.mp mb]) (us:= [.map (some c)]) (ob:= .mapIter (some c) es.length #[] es.length) ⟨c,rfl,rfl⟩ rfl
  (fun i y v hi hv'=>by
   cases i with
   | zero=>simp only [List.getElem?_cons_zero,Option.some.injEq] at hi hv';subst hi hv';rw [ex] at hv;exact hv
   | succ i=>simp at hi)
 have hrun:(execOp a.eval o).run P M.w= .ok (.value (.pointer (some ⟨M.w.heap.size,0,none⟩))) (M.w.alloc (.mapIter (some c) es.length #[] es.length)):=by
  simp only [execOp,ho,ex]
  unfold Instr.range
  simp [Sem.run_bind,run_underlying ht,qbD q1]
 unfold Oper.wp
 rw [hrun]
 refine hK _ _ (h M0 hM0 _ _ (hs.trans s1) (hr.step s1 hd (.mp S.nx _ (.inr rfl) ⟨3,_,rfl⟩ fun blk hb'=>?_) ⟨r1,fun b hb'=>?_,fun b=>?_⟩) ro hro.tl)
 ·simp only [AH.put,if_true,Option.some.injEq] at hb'
  subst hb'
  exact⟨by simp [IBlk.isMp],M.w.heap.size,0,0,by simp [putβ],rfl⟩
 ·rcases hb' with hb' | hb'
  ·have:=hr.heap.A b hb';omega
  ·omega
 ·simp only [AH.put,List.cons_append,List.nil_append,look]
  by_cases e:b=S.nx
  ·rw [if_pos e,if_pos e.symm]
  ·rw [if_neg e,if_neg (show ¬(S.nx=b) from fun h=>e h.symm)];exact hr.heap.G b
def qbA (seen:List Nat) (n:Nat):List Nat:=(List.range n).filter fun i=>!seen.contains i
theorem qm8 {P:MapEntry→Bool} (l:List MapEntry) (k:Nat) (hb: ∀(i:Nat) (e:MapEntry),l[i]? =some e→e.born=k+i) (p:Nat→Bool) (hp: ∀e∈l,P e=p e.born):
  l.filter P=((List.range' k l.length).filter p).filterMap fun i=>l[i - k]? :=by
 induction l generalizing k with
 | nil=>rfl
 | cons e l ih=>
   have hk:e.born=k:=by simpa using hb 0 e rfl
   have h1:=ih (k+1) (fun i e' h=>by have:=hb (i+1) e' (by simpa using h);omega) (fun e' h=>hp e' (List.mem_cons_of_mem _ h))
   have hpe:=hp e (List.mem_cons_self ..)
   rw [hk] at hpe
   have h2: ∀m:List Nat,(∀i∈m,k+1≤i)→m.filterMap (fun i=>(e::l)[i - k]?)=m.filterMap fun i=>l[i - (k+1)]? :=by
    intro m
    induction m with
    | nil=>intro _;rfl
    | cons i m im=>
      intro hm
      have hi:=hm i (List.mem_cons_self ..)
      have e1:(e::l)[i - k]? =l[i - (k+1)]? :=by
       rw [show i - k=(i - (k+1))+1 by omega,List.getElem?_cons_succ]
      simp only [List.filterMap_cons,e1,im fun j hj=>hm j (List.mem_cons_of_mem _ hj)]
   have hge: ∀i∈(List.range' (k+1) l.length).filter p,k+1≤i:=fun i hi=>(List.mem_range'_1.1 (List.mem_filter.1 hi).1).1
   simp only [List.length_cons,List.range'_succ,List.filter_cons]
   rw [hpe]
   split
   ·simp only [List.filterMap_cons,Nat.sub_self,List.getElem?_cons_zero]
    rw [h1,h2 _ hge]
   ·rw [h1,h2 _ hge]
theorem qjq {all:Array Oper} {o:Oper} {r:List Oper} {S:qaa} {Q:Exit→qaa→Prop} {x:Operand} {ib mb since last:Nat} {seen:List Nat} {es:List (Value × IV)}
  (ho:o.op= .next x false) (hw:qai all S.s o=some true) (hx:ev S.s x=some (.mp ib)) (hi:look (S.l++h0.m) ib=some (.ob (.it since seen last) [.mp mb])) (hb:look (S.l++h0.m) mb=some (.mp es))
  (hl:es.length=since) (hlast:0 < last∨seen= []) (hd:qaE S o.dst=true)
  (h:qbA seen es.length= []→IOps P h0 all r (S.put o.dst (.tup [scb false]) S.nx []) Q)
  (h': ∀i k y,i∈qbA seen es.length→es[i]? =some (k,y)→IOps P h0 all r (S.put o.dst (.tup [scb true, .p (.sc k),y]) S.nx [(ib, .ob (.it since (seen++ [i]) es.length) [.mp mb])]) Q):IOps P h0 all (o::r) S Q:=by
 intro M0 hM0 M a hs hr ro hro
 refine wpListW_step (hro.mem (List.mem_cons_self ..)) fun K hK=>?_
 rw [if_pos (qa4 hr hw)]
 have hM:=hr.heap.rel
 have hG:M.H.G mb=some (.mp es):=by rw [hr.heap.G];exact hb
 have hGi:M.H.G ib=some (.ob (.it since seen last) [.mp mb]):=by rw [hr.heap.G];exact hi
 obtain⟨c,oo,nn,hβ,es',clock,q1,⟨q2,rfl⟩,q3⟩:=hM.blk mb _ hG
 obtain⟨ci,oi,ni,hβi,obi,usi,p1,⟨m,rfl,rfl⟩,p3,p4⟩:=hM.blk ib _ hGi
 have hm:m=c:=by
  have:=p4 0 _ _ rfl rfl
  cases this with
  | mp b v hA hv h=>
    obtain⟨_,c',o',n',g1,g2⟩:=h _ hG
    rw [hβ] at g1;cases g1
    simpa [hnd,IBlk.isMp] using g2
 subst hm
 have hv:=qaH hr.slot hx
 have ex:a.eval x= .pointer (some ⟨ci,0,none⟩):=by
  generalize a.eval x=q at hv
  cases hv with
  | mp b v hA hv h=>
    obtain⟨_,c',o',n',g1,g2⟩:=h _ hGi
    rw [hβi] at g1;cases g1
    exact g2
 have born: ∀(i:Nat) (e:MapEntry),es'.toList[i]? =some e→e.born=0+i:=by
  intro i e he
  have hlt:=qab he
  have hlt':i < es.length:=by rw [←q2];simpa using hlt
  obtain⟨e2,g1,⟨_,g2⟩,_⟩:=q3 i _ _ (List.getElem?_eq_getElem hlt')
  rw [Array.getElem?_toList,g1] at he
  cases he
  omega
 have hnuns:((!(⟨seen⟩:Array Nat).isEmpty && !es'.isEmpty) && es'.all (fun e=>decide (e.born≥last)))=false:=by
  rcases hlast with hlast | hlast
  ·cases he:es'.isEmpty with
   | true=>simp
   | false=>
     have hpos:0 < es'.size:=by
      rcases Nat.eq_zero_or_pos es'.size with h | h
      ·rw [Array.isEmpty_iff_size_eq_zero.2 h] at he;cases he
      ·exact h
     have hb0:=born 0 es'[0] (by rw [Array.getElem?_toList];exact Array.getElem?_eq_getElem hpos)
     have:es'.all (fun e=>decide (e.born≥last))=false:=by
      rw [Bool.eq_false_iff]
      intro hall
      rw [Array.all_eq_true] at hall
      have:=hall 0 hpos
      simp only [decide_eq_true_eq] at this
      omega
     rw [this,Bool.and_false]
  ·subst hlast;simp
 have hlen:es'.toList.length=es.length:=by simpa using q2
 have hleft:(es'.filter fun e=>!(⟨seen⟩:Array Nat).contains e.born)=⟨(qbA seen es.length).filterMap fun i=>es'[i]?⟩:=by
  apply Array.toList_inj.1
  rw [Array.toList_filter,qm8 es'.toList 0 born (fun i=>!seen.contains i) (fun e _=>by simp),hlen,←List.range_eq_range']
  simp [qbA]
 have hold: ∀e∈(qbA seen es.length).filterMap (fun i=>es'[i]?),e.born < since:=by
  intro e he
  obtain⟨i,hi1,hi2⟩:=List.mem_filterMap.1 he
  have:=born i e (by rw [Array.getElem?_toList];exact hi2)
  have hlt:=(Array.getElem?_eq_some_iff.1 hi2).1
  omega
 have hf1:(⟨(qbA seen es.length).filterMap fun i=>es'[i]?⟩:Array MapEntry).filter (fun e=>decide (e.born < since))=⟨(qbA seen es.length).filterMap fun i=>es'[i]?⟩:=by
  apply Array.toList_inj.1
  rw [Array.toList_filter]
  exact List.filter_eq_self.2 fun e he=>by simpa using hold e he
 have hf2:(⟨(qbA seen es.length).filterMap fun i=>es'[i]?⟩:Array MapEntry).filter (fun e=>decide (e.born≥since))= #[]:=by
  apply Array.toList_inj.1
  rw [Array.toList_filter]
  exact List.filter_eq_nil_iff.2 fun e he=>by have:=hold e he;simp;omega
 unfold Oper.wp
 have hgi:(getObj ci).run P M.w= .ok (.mapIter (some m) since ⟨seen⟩ last) M.w:=qbD p1
 have hgm:(getObj m).run P M.w= .ok (.map es' es.length) M.w:=qbD q1
 cases hL:qbA seen es.length with
 | nil=>
   have hrun:(execOp a.eval o).run P M.w= .ok (.value (.tuple #[.bool false])) M.w:=by
    simp only [execOp,ho,ex]
    unfold Instr.next
    simp only [Sem.run_bind,hgi,hgm,Result.andThen_ok,hnuns,Bool.false_eq_true,if_false,hleft,hL,List.filterMap_nil]
    simp [Question.forced,run_choose_drew]
   rw [hrun]
   exact hK _ _ (h hL M0 hM0 M _ hs (hr.step (.refl M) hd (.tup [scb false] [.bool false] rfl fun i y v hi hv=>by
    cases i with
    | zero=>simp only [List.getElem?_cons_zero,Option.some.injEq] at hi hv;subst hi hv;exact .p _ _ (.sc _)
    | succ i=>simp at hi) hr.heap) ro hro.tl)
 | cons i0 rest=>
   -- any entry that is left
   have hmem: ∀i,i∈qbA seen es.length→i < es.length:=fun i hi=>List.mem_range.1 (List.mem_filter.1 hi).1
   have hfm: ∀l:List Nat,(∀i∈l,i < es.length)→(l.filterMap fun i=>es'[i]?).length=l.length∧ ∀(j:Nat) (i:Nat),l[j]? =some i→(l.filterMap fun i=>es'[i]?)[j]? =es'[i]? :=by
    intro l
    induction l with
    | nil=>intro _;exact⟨rfl,fun j i h=>by simp at h⟩
    | cons i l ih=>
      intro hl2
      obtain⟨e1,e2⟩:=ih fun j hj=>hl2 j (List.mem_cons_of_mem _ hj)
      have hi:=Array.getElem?_eq_getElem (show i < es'.size by rw [q2];exact hl2 i (List.mem_cons_self ..))
      simp only [List.filterMap_cons,hi]
      refine⟨by simp [e1],fun j i' hj=>?_⟩
      cases j with
      | zero=>simp only [List.getElem?_cons_zero,Option.some.injEq] at hj ⊢;subst hj;exact hi.symm
      | succ j=>simpa using e2 j i' (by simpa using hj)
   obtain⟨fl,fg⟩:=hfm (qbA seen es.length) hmem
   have key: ∃(t:Nat) (w':World),t < (qbA seen es.length).length∧(w'=M.w∨w'=M.w.drew)∧(choose (.mapNext (qbA seen es.length).length)).run P M.w= .ok t w':=by
    have hpos:0 < (qbA seen es.length).length:=by rw [hL];simp
    rw [run_choose_drew]
    split
    ·exact⟨0,_,hpos, .inl rfl,rfl⟩
    ·exact⟨_,_,Nat.mod_lt _ hpos, .inr rfl,rfl⟩
   obtain⟨t,w',ht,hw',hch⟩:=key
   have hti:=List.getElem?_eq_getElem ht
   obtain⟨i,hii⟩: ∃i,(qbA seen es.length)[t]=i:=⟨_,rfl⟩
   rw [hii] at hti
   have him:i∈qbA seen es.length:=List.mem_of_getElem? hti
   have hilt:=hmem i him
   have hei:=List.getElem?_eq_getElem hilt
   obtain⟨e,e1,⟨e2,e3⟩,e4⟩:=q3 i es[i].1 es[i].2 hei
   have hwh:w'.heap=M.w.heap:=by rcases hw' with rfl | rfl<;>rfl
   have hrun:(execOp a.eval o).run P M.w= .ok (.value (.tuple #[.bool true,e.key,e.val])) (w'.putObj ci (.mapIter (some m) since ⟨seen++ [i]⟩ es.length)):=by
    simp only [execOp,ho,ex]
    unfold Instr.next
    simp only [Sem.run_bind,hgi,hgm,Result.andThen_ok,hnuns,Bool.false_eq_true,if_false,hleft,hf1,hf2]
    have hne:(⟨(qbA seen es.length).filterMap fun i=>es'[i]?⟩:Array MapEntry).isEmpty=false:=by
     rw [Bool.eq_false_iff]
     intro hq
     have h0:((qbA seen es.length).filterMap fun i=>es'[i]?).length=0:=by simpa using Array.isEmpty_iff_size_eq_zero.1 hq
     rw [fl,hL] at h0
     simp at h0
    simp only [hne,Bool.false_eq_true,if_false,Array.append_empty,Array.empty_append,Array.size_map,List.size_toArray,fl]
    simp only [hch,Result.andThen_ok,Array.getElem?_map,List.getElem?_toArray,fg t i hti,e1,Option.map_some]
    rw [Sem.run_bind,qj4 (o:= .mapIter (some m) since ⟨seen⟩ last) (by rw [hwh];exact p1)]
    simp [e3]
   rw [hrun]
   have hMd: ∃Md:Mem,Md=⟨w',M.H,M.β⟩∧qae M Md∧MRel Md:=by
    rcases hw' with rfl | rfl
    ·exact⟨_,rfl, .refl M,hM⟩
    ·exact⟨_,rfl, .drew M,hM.drew⟩
   obtain⟨Md,rfl,sd,rd⟩:=hMd
   obtain⟨s1,r1⟩:=qpI (M:=⟨w',M.H,M.β⟩) rd (b:=ib) (k':= .it since (seen++ [i]) es.length) (vs':= [.mp mb]) (us:= [.map (some m)]) (ob:= .mapIter (some m) since ⟨seen++ [i]⟩ es.length) hGi hβi rfl ⟨m,rfl,rfl⟩ rfl
    (fun j y v hj hv'=>(p4 j y v hj hv').step sd)
   have st:=sd.trans s1
   refine hK _ _ (h' i _ _ him hei M0 hM0 _ _ (hs.trans st) (hr.step st hd (.tup [scb true, .p (.sc es[i].1),es[i].2] [.bool true,e.key,e.val] rfl fun j y v hj hv'=>?_) ⟨r1,fun b hb'=>hb'.elim (hr.heap.A b) (fun e=>e ▸hr.heap.A _ (hM.dom _ _ hGi)),fun b=>?_⟩) ro hro.tl)
   ·match j,hj,hv' with
    | 0,hj,hv'=>simp only [List.getElem?_cons_zero,Option.some.injEq] at hj hv';subst hj hv';exact .p _ _ (.sc _)
    | 1,hj,hv'=>simp only [List.getElem?_cons_succ,List.getElem?_cons_zero,Option.some.injEq] at hj hv';subst hj hv';rw [e2];exact .p _ _ (.sc _)
    | 2,hj,hv'=>simp only [List.getElem?_cons_succ,List.getElem?_cons_zero,Option.some.injEq] at hj hv';subst hj hv';exact e4.step st
    | j+3,hj,hv'=>simp at hj
   ·simp only [AH.put,List.cons_append,List.nil_append,look]
    by_cases e:b=ib
    ·rw [if_pos e,if_pos e.symm]
    ·rw [if_neg e,if_neg (show ¬(ib=b) from fun h=>e h.symm)];exact hr.heap.G b
theorem qoz {all:Array Oper} {o:Oper} {r:List Oper} {S:qaa} {Q:Exit→qaa→Prop} {x:Operand} {ib mb since i:Nat} {seen:List Nat} {es:List (Value × IV)} {k:Value} {y:IV}
  (ho:o.op= .entry x) (hw:qai all S.s o=some true) (hx:ev S.s x=some (.mp ib)) (hi:look (S.l++h0.m) ib=some (.ob (.it since (seen++ [i]) es.length) [.mp mb])) (hb:look (S.l++h0.m) mb=some (.mp es))
  (he:es[i]? =some (k,y)) (hd:qaE S o.dst=true)
  (h:IOps P h0 all r (S.put o.dst (.tup [.p (.sc k),y]) S.nx []) Q):IOps P h0 all (o::r) S Q:=by
 intro M0 hM0 M a hs hr ro hro
 refine wpListW_step (hro.mem (List.mem_cons_self ..)) fun K hK=>?_
 rw [if_pos (qa4 hr hw)]
 have hM:=hr.heap.rel
 have hG:M.H.G mb=some (.mp es):=by rw [hr.heap.G];exact hb
 have hGi:M.H.G ib=some (.ob (.it since (seen++ [i]) es.length) [.mp mb]):=by rw [hr.heap.G];exact hi
 obtain⟨c,oo,nn,hβ,es',clock,q1,⟨q2,rfl⟩,q3⟩:=hM.blk mb _ hG
 obtain⟨ci,oi,ni,hβi,obi,usi,p1,⟨m,rfl,rfl⟩,p3,p4⟩:=hM.blk ib _ hGi
 have hm:m=c:=by
  have:=p4 0 _ _ rfl rfl
  cases this with
  | mp b v hA hv h=>
    obtain⟨_,c',o',n',g1,g2⟩:=h _ hG
    rw [hβ] at g1;cases g1
    simpa [hnd,IBlk.isMp] using g2
 subst hm
 have hv:=qaH hr.slot hx
 have ex:a.eval x= .pointer (some ⟨ci,0,none⟩):=by
  generalize a.eval x=q at hv
  cases hv with
  | mp b v hA hv h=>
    obtain⟨_,c',o',n',g1,g2⟩:=h _ hGi
    rw [hβi] at g1;cases g1
    exact g2
 obtain⟨e,e1,⟨e2,e3⟩,e4⟩:=q3 i k y he
 have hfind:es'.find? (fun e=>e.born==i)=some e:=by
  rw [←Array.find?_toList]
  have hel:es'.toList[i]? =some e:=by rw [Array.getElem?_toList];exact e1
  rw [List.find?_eq_some_iff_getElem]
  refine⟨by simp [e3],i,qab hel,(List.getElem?_eq_some_iff.1 hel).2,fun j hj=>?_⟩
  have hjl:j < es.length:=by have:=qab he;omega
  obtain⟨e',g1,⟨_,g3⟩,_⟩:=q3 j _ _ (List.getElem?_eq_getElem hjl)
  have hjs:j < es'.toList.length:=by have:=qab hel;omega
  have:es'.toList[j]=e':=by
   have h1:=List.getElem?_eq_getElem hjs
   rw [Array.getElem?_toList,g1] at h1
   exact(Option.some.inj h1).symm
  rw [this,g3]
  simp;omega
 have hrun:(execOp a.eval o).run P M.w= .ok (.value (.tuple #[e.key,e.val])) M.w:=by
  simp only [execOp,ho,ex]
  unfold Instr.entry
  simp only [Sem.run_bind,qbD p1,qbD q1,Result.andThen_ok]
  simp [qbD q1,hfind]
 unfold Oper.wp
 rw [hrun]
 refine hK _ _ (h M0 hM0 M _ hs (hr.step (.refl M) hd (.tup [.p (.sc k),y] [e.key,e.val] rfl fun j z v hj hv'=>?_) hr.heap) ro hro.tl)
 match j,hj,hv' with
 | 0,hj,hv'=>simp only [List.getElem?_cons_zero,Option.some.injEq] at hj hv';subst hj hv';rw [e2];exact .p _ _ (.sc _)
 | 1,hj,hv'=>simp only [List.getElem?_cons_succ,List.getElem?_cons_zero,Option.some.injEq] at hj hv';subst hj hv';exact e4
 | j+2,hj,hv'=>simp at hj
def xapn (P:Program) (h:IH) (o:Oper) (S:qaa):Option qaa:=
 match o.op with
 | .call {callee:= .builtin .append,args:=⟨[s,x]⟩,argTypes:=⟨[t1,t2]⟩}=>match ev S.s s with
   | some (.p (.sc (.slice none 0 0)))=>match ev S.s x,qhA P t1 t2 with
     | some zx,some (_,sz,_,_)=>match iapp (look (S.l++h.m)) sz zx with
       | some ([],_)=>some (S.put o.dst (.p (.sc (.slice none 0 0))) S.nx [])
       | _=>none
     | _,_=>none
   | _=>none
 | _=>none
theorem xapn_sound {h:IH} {all:Array Oper} {o:Oper} {r:List Oper} {S S':qaa} {Q:Exit→qaa→Prop} (hx:xapn P h o S=some S') (hw:qai all S.s o=some true) (hd:qaE S o.dst=true)
  (hk:IOps P h all r S' Q):IOps P h all (o::r) S Q:=by
 unfold xapn at hx
 split at hx<;>try(cases hx;done)
 rename_i s x t1 t2 ho
 split at hx<;>try(cases hx;done)
 rename_i hs
 split at hx<;>try(cases hx;done)
 rename_i zx e sz by_ zs hxx hT
 split at hx<;>try(cases hx;done)
 rename_i Rx hi
 cases hx
 obtain⟨i,z,hT⟩:=qi9 hT
 intro M0 hM0 M a hst hr ro hro
 refine wpListW_step (hro.mem (List.mem_cons_self ..)) fun K hK=>?_
 rw [if_pos (qa4 hr hw)]
 have e1:=(qaH hr.slot hs).sc_inv
 have hG:look (S.l++h.m)=M.H.G:=by funext b;rw [hr.heap.G]
 rw [hG] at hi
 obtain⟨news,hA⟩:=qbz (P:=P) hi hr.heap.rel (iapp_reads hi) (qaH hr.slot hxx)
 have hn:news= []:=List.eq_nil_of_length_eq_zero (by simpa using hA.nl)
 subst hn
 have hrun:=run_append_fits' (P:=P) (ty:=o.type) hT (base:=none) (sLen:=0) (sCap:=0) (n:=0) (hA.len M.w) (by simpa using hA.get) (Nat.le_refl _) (w':=M.w) rfl
 have hrun2:(execOp a.eval o).run P M.w= .ok (.value (.slice none 0 0)) M.w:=by
  simp only [execOp,ho,resolve,invoke,builtin,Sem.run_bind,Sem.run_pure,Result.andThen_ok,List.map_toArray,List.map_cons,List.map_nil,e1,hrun]
 unfold Oper.wp
 rw [hrun2]
 exact hK _ _ (hk M0 hM0 M _ hst (hr.step (.refl M) hd (.p _ _ (.sc _)) hr.heap) ro hro.tl)
end Go.Idl
