/-
 A function of plain data, proved at the empty ideal heap; a run of closed calls by computing.
-/
import Derived.Test.YtfhhdgkhajkapaaGreatIdFr
import Derived.Test.YtfhhdgkhajkapaaGreatIdMw
import Derived.LoopN
set_option linter.unusedSimpArgs false
set_option linter.unusedVariables false
namespace Go.Idl
variable {P:Program} {h0:IH}
/-! ### from the empty heap to any -/
def Mem.bare (M:Mem):Mem:=⟨M.w,⟨fun _=>False,fun _=>none,M.own⟩,fun _=>none⟩
theorem Mem.bare_own (M:Mem) (c:Nat):M.bare.own c↔M.own c:=
 ⟨fun h=>h.elim id (fun⟨_,_,_,_,h,_⟩=>(by cases h)),fun h=> .inl h⟩
theorem MRel.bare {M:Mem} (h:MRel M):MRel M.bare:=
 ⟨fun _ _ h=>(by cases h),fun _ _ h=>(by cases h),fun _ _ _ _ _ _ _ _ _ h=>(by cases h),fun _ hc=>h.lt hc,fun _ _ _ _ _ h=>(by cases h)⟩
theorem PRel.own {w:World} {own own':Nat→Prop} (h2: ∀c,own' c→own c) {x:PV} {v:Value} (h:PRel w own x v):PRel w own' x v:=
 h.step (Nat.le_refl _) fun c _ ho=>⟨rfl,fun h=>ho (h2 c h)⟩
theorem VRel.bare {M M':Mem} (hw:M'.w=M.w) (ho: ∀c,M'.own c→M.own c) {x:IV} {v:Value} (h:VRel M x v) (hb:bel 0 x):VRel M' x v:=by
 induction h with
 | p x v h=>exact .p x v (by rw [hw];exact h.own ho)
 | ref b g off len v=>exact absurd hb (Nat.not_lt_zero _)
 | ptr b g r j v=>exact absurd hb (Nat.not_lt_zero _)
 | mp b v=>exact absurd hb (Nat.not_lt_zero _)
 | clo fn first cap vf vc hf hc rf rc i1 i2=>
   exact .clo fn first cap vf vc hf hc (fun i x v hx hv=>i1 i x v hx hv (qaR hb.1 hx)) (fun i x v hx hv=>i2 i x v hx hv (qaR hb.2 hx))
 | agg cs vs hl h1 r ih=>exact .agg cs vs hl h1 fun i x v hx hv=>ih i x v hx hv (qaR hb hx)
 | tup cs vs hl r ih=>exact .tup cs vs hl fun i x v hx hv=>ih i x v hx hv (qaR hb hx)
 | dead v=>exact .dead v
theorem qib {f:FuncId} {args:List IV} {x:IV} (ha:bels 0 args) (hx:bel 0 x)
  (h:qa5 P f args ⟨0, []⟩ fun r nx l=> ∃y,r= .ret y∧wk y x∧nx=0∧l= []):PCall P f args [] x:=by
 intro h' _ M vs hM hl hr
 have hb:HRel 0 [] M.bare:=⟨hM.rel.bare,fun b h=>h.elim,fun b=>rfl⟩
 refine(h M.bare vs hb hl fun i y v hy hv=>VRel.bare (M:=M) (M':=M.bare) rfl (fun c h=>(M.bare_own c).1 h) (hr i y v hy hv) (qaR ha hy)).mono ?_
 rintro e w' ⟨M',nx',l',r,rfl,st,hh,he,y,rfl,hw,rfl,rfl⟩
 obtain⟨v,rfl,hv⟩:=he
 have hold: ∀c,c < M.w.heap.size→M'.w.heap[c]? =M.w.heap[c]? :=by
  intro c hc
  by_cases ho:M.own c
  ·exact st.ofix c ho
  ·exact(st.keep c hc fun h=>ho ((M.bare_own c).1 h)).1
 have hO:M'.H.O=M.own:=st.oeq
 have s:qae M {M with w:=M'.w}:=
  ⟨st.os,st.tape,st.output,st.size,fun c hc ho=>⟨hold c hc,ho⟩,fun _ h=>h,fun _ blk' _ h=>⟨blk',h,rfl,rfl,Nat.le_refl _,fun _=>⟨rfl,rfl⟩⟩,rfl,
   fun c hc=>hold c (hM.rel.olt c hc)⟩
 refine⟨{M with w:=M'.w},h'.nx, [], .ret x,rfl,s,⟨hM.rel.same s fun c hc=>hold c (hM.rel.lt hc),hM.A,hM.G⟩,⟨v,rfl,?_⟩,rfl,rfl,rfl⟩
 exact VRel.bare (M:=M') (M':= {M with w:=M'.w}) rfl (fun c hc=> .inl (by rw [hO];exact hc)) (hv.wk hw) hx
/-! ### blocks of the caller's that are only looked at -/
def qb1:IV→Bool
 | .p (.sc _)=>true
 | .p (.nan _)=>true
 | .agg cs=>goS cs
 | .tup cs=>goS cs
 | .dead=>true
 | _=>false
where goS:List IV→Bool
 | []=>true
 | x::r=>qb1 x && goS r
theorem qiP: ∀ {l:List IV} {i:Nat} {x:IV},qb1.goS l=true→l[i]? =some x→qb1 x=true
 | [],_,_,_,hx=>by cases hx
 | y::r,i,x,h,hx=>by
   simp only [qb1.goS,Bool.and_eq_true] at h
   cases i with
   | zero=>simp at hx;subst hx;exact h.1
   | succ i=>exact qiP h.2 (by simpa using hx)
theorem VRel.scal {M M':Mem} {x:IV} {v:Value} (h:VRel M x v):qb1 x=true→VRel M' x v:=by
 induction h with
 | p x v h=>
   intro hb
   cases h with
   | sc v=>exact .p _ _ (.sc v)
   | emp a=>cases hb
   | imm=>cases hb
   | rp=>cases hb
   | nan k b h=>exact .p _ _ (.nan k b h)
 | ref b g off len v=>intro hb;cases hb
 | ptr b g r j v=>intro hb;cases hb
 | mp b v=>intro hb;cases hb
 | clo fn first cap vf vc hf hc rf rc i1 i2=>intro hb;cases hb
 | agg cs vs hl h1 r ih=>exact fun hb=> .agg cs vs hl h1 fun i x v hx hv=>ih i x v hx hv (qiP hb hx)
 | tup cs vs hl r ih=>exact fun hb=> .tup cs vs hl fun i x v hx hv=>ih i x v hx hv (qiP hb hx)
 | dead v=>exact fun _=> .dead v
theorem qp0 (n:Nat) (x:IV):qb1 x=true→bel n x:=by
 apply IV.rec (motive_1:=fun x=>qb1 x=true→bel n x) (motive_2:=fun l=>qb1.goS l=true→bels n l)
 ·intro x _;trivial
 ·intro b g off len h;cases h
 ·intro b g r j h;cases h
 ·intro b h;cases h
 ·intro fn f c i1 i2 h;cases h
 ·intro cs ih h;exact ih h
 ·intro cs ih h;exact ih h
 ·intro _;trivial
 ·intro _;trivial
 ·intro x l i1 i2 h
  simp only [qb1.goS,Bool.and_eq_true] at h
  exact⟨i1 h.1,i2 h.2⟩
def Mem.lend (M:Mem) (ids:List Nat):Mem:=⟨M.w,⟨fun _=>False,fun b=>if b∈ids then none else M.H.G b,M.H.O⟩,M.β⟩
theorem qic {f:FuncId} {args args':List IV} {R:List (Nat × IBlk)} {x:IV} (hf:frzs (look R) args=some args') (hx:qb1 x=true) (h:PCall P f args' [] x):PCall P f args R x:=by
 intro h' hR M vs hM hl hr
 obtain⟨fl,fg⟩:=qc7 hf
 have hG: ∀b blk,look R b=some blk→M.H.G b=some blk:=fun b blk hb=>by rw [hM.G];exact hR _ (qaD hb)
 have hless:Less M (M.lend (qaK args)) 0 (qaK args):=by
  refine⟨rfl,rfl,fun b hb=>absurd hb (Nat.not_lt_zero _),fun b blk' hb=>?_,fun b hb=>by simp [Mem.lend,hb],rfl⟩
  simp only [Mem.lend] at hb
  split at hb
  ·cases hb
  ·exact⟨blk',hb, .refl _⟩
 have hown: ∀c,(M.lend (qaK args)).own c→M.own c:=fun c hc=>hless.own hc
 have hb0:HRel 0 [] (M.lend (qaK args)).bare:=
  ⟨⟨fun _ _ h=>(by cases h),fun _ _ h=>(by cases h),fun _ _ _ _ _ _ _ _ _ h=>(by cases h),fun c hc=>hM.rel.lt (hown c hc),fun _ _ _ _ _ h=>(by cases h)⟩,fun b h=>h.elim,fun b=>rfl⟩
 have hargs: ∀(i:Nat) (y:IV) (v:Value),args'[i]? =some y→vs[i]? =some v→VRel (M.lend (qaK args)).bare y v:=by
  intro i y v hy hv
  have hlt:=qab hy
  have ha:=List.getElem?_eq_getElem (show i < args.length by omega)
  obtain⟨g1,g2⟩:=qfF _ y (qaK args) (fg i _ y ha hy) (fun b hb=>refss_get ha b hb)
  have g1':Fz M.H.G (qaK args) args[i] y:=by
   clear g2
   have: ∀ {ids:List Nat} {x y:IV},Fz (look R) ids x y→Fz M.H.G ids x y:=by
    intro ids x y hz
    induction hz with
    | refl x=>exact .refl x
    | ref b g off len sz rows prows hb hi hp=>exact .ref b g off len sz rows prows (hG b _ hb) hi hp
    | ptr b g r j sz rows row cells hb hi hrow hp=>exact .ptr b g r j sz rows row cells (hG b _ hb) hi hrow hp
    | agg xs ys hl h ih=>exact .agg xs ys hl ih
    | tup xs ys hl h ih=>exact .tup xs ys hl ih
    | clo fn fs gs cs ds h1 h2 hf hc i1 i2=>exact .clo fn fs gs cs ds h1 h2 i1 i2
    | dead x=>exact .dead x
    | nil a sz h=>exact .nil a sz h
   exact this g1
  exact VRel.bare (M:=M.lend (qaK args)) (M':=(M.lend (qaK args)).bare) rfl (fun c h=>((M.lend (qaK args)).bare_own c).1 h) (VRel.fz hM.rel hless g1' (hr i _ v ha hv) g2) g2
 refine(h ⟨0, []⟩ (by simp) _ vs hb0 (by omega) hargs).mono ?_
 rintro e w' ⟨M',nx',l',r,rfl,st,hh,he,rfl,rfl,rfl⟩
 obtain⟨v,rfl,hv⟩:=he
 have hold: ∀c,c < M.w.heap.size→M'.w.heap[c]? =M.w.heap[c]? :=by
  intro c hc
  by_cases ho:(M.lend (qaK args)).own c
  ·exact st.ofix c ho
  ·exact(st.keep c hc fun h=>ho (((M.lend (qaK args)).bare_own c).1 h)).1
 have s:qae M {M with w:=M'.w}:=
  ⟨st.os,st.tape,st.output,st.size,fun c hc ho=>⟨hold c hc,ho⟩,fun _ h=>h,fun _ blk' _ h=>⟨blk',h,rfl,rfl,Nat.le_refl _,fun _=>⟨rfl,rfl⟩⟩,rfl,
   fun c hc=>hold c (hM.rel.olt c hc)⟩
 exact⟨{M with w:=M'.w},h'.nx, [], .ret x,rfl,s,⟨hM.rel.same s fun c hc=>hold c (hM.rel.lt hc),hM.A,hM.G⟩,⟨v,rfl,hv.scal hx⟩,rfl,rfl,rfl⟩
theorem pcall0 (n:Nat) {f:FuncId} {fn:Func} {c:Code} {args:List IV} {x:IV} (hf:P.funcs[f]? =some fn) (hb:fn.body=some c) (hn:args.length≤fn.ntmps) (ha:bels 0 args) (hx:bel 0 x)
  (hc:isms args→vc P ⟨0, []⟩ (EndP P fn ⟨0, []⟩ fun y=>wk y x) n [.code c] ⟨fn.ntmps,enum 0 args, [],0, []⟩):PCall P f args [] x:=by
 refine qib ha hx ?_
 intro M vs hM hl hr
 have hs:isms args:=qc9 fun i x hx=>(hr i x _ hx (List.getElem?_eq_getElem (by have:=qab hx;omega))).small
 refine icall_of hf hb hn (qbd.mono (vc_sound _ _ _ _ (hc hs)) fun e S he=>?_) M vs hM hl hr
 cases e with
 | normal=>exact qla _ (.inl rfl) he.1 he.2.1 he.2.2.1 he.2.2.2
 | ret=>exact qla _ (.inr rfl) he.1 he.2.1 he.2.2.1 he.2.2.2
 | exit id=>exact he.elim
 | goto l=>exact he.elim
 | panic ch=>exact he.elim
 | outgrown=>exact he.elim
/-! ### runs by computing -/
def qbO:IV→Bool
 | .p _=>true
 | .agg cs=>goB cs
 | .tup cs=>goB cs
 | .clo _ f c=>goB f && goB c
 | .dead=>true
 | _=>false
where goB:List IV→Bool
 | []=>true
 | x::r=>qbO x && goB r
theorem qjC (n:Nat) (x:IV):qbO x=true→bel n x:=by
 apply IV.rec (motive_1:=fun x=>qbO x=true→bel n x) (motive_2:=fun l=>qbO.goB l=true→bels n l)
 ·intro x _;trivial
 ·intro b g off len h;cases h
 ·intro b g r j h;cases h
 ·intro b h;cases h
 ·intro fn f c i1 i2 h
  simp only [qbO,Bool.and_eq_true] at h
  exact⟨i1 h.1,i2 h.2⟩
 ·intro cs ih h;exact ih h
 ·intro cs ih h;exact ih h
 ·intro _;trivial
 ·intro _;trivial
 ·intro x l i1 i2 h
  simp only [qbO.goB,Bool.and_eq_true] at h
  exact⟨i1 h.1,i2 h.2⟩
theorem qgW (n:Nat): ∀l:List IV,qbO.goB l=true→bels n l
 | [],_=>trivial
 | x::r,h=>by simp only [qbO.goB,Bool.and_eq_true] at h;exact⟨qjC n x h.1,qgW n r h.2⟩
def ddp:List (Nat × IBlk)→List (Nat × IBlk)
 | []=> []
 | p::r=>p::(ddp r).filter fun q=>q.1 != p.1
theorem qdU: ∀ {l:List (Nat × IBlk)} {p:Nat × IBlk},p∈ddp l→look l p.1=some p.2
 | [],p,h=>by cases h
 | (k,x)::r,p,h=>by
   simp only [ddp,List.mem_cons,List.mem_filter,bne_iff_ne] at h
   rcases h with rfl | ⟨h,hne⟩
   ·simp [look]
   ·rw [look,if_neg (fun e=>hne e.symm)]
    exact qdU h
theorem qdT: ∀ {l:List (Nat × IBlk)} {p:Nat × IBlk},p∈l→ ∃blk,(p.1,blk)∈ddp l
 | [],p,h=>by cases h
 | (k,x)::r,p,h=>by
   by_cases e:p.1=k
   ·exact⟨x,by simp [ddp,e]⟩
   ·rcases List.mem_cons.1 h with rfl | h
    ·exact absurd rfl e
    ·obtain⟨blk,hb⟩:=qdT h
     exact⟨blk,by simp [ddp,hb,e]⟩
def _root_.Go.Code.opsOf:Code→Array Oper
 | .region _ ops _=>ops
 | _=>#[]
abbrev XRun:=Bool→IH→List It→qaa→Option (Exit × qaa)
def geB (n:Nat):List Nat→Bool
 | []=>true
 | b::r=>Nat.ble n b && geB n r
theorem qiO {n:Nat}: ∀ {l:List Nat},geB n l=true→geAll n l
 | [],_=>trivial
 | b::r,h=>by simp only [geB,Bool.and_eq_true] at h;exact⟨Nat.le_of_ble_eq_true h.1,qiO h.2⟩
def xret (b:Bool) (h:IH) (x:IV) (S:qaa):IEnd × Nat × List (Nat × IBlk):=
 match b with
 | false=>(.ret x,S.nx,ddp S.l)
 | true=>match geB h.nx (S.l.map (·.1)) && geB h.nx (refs x),frz (look (S.l++h.m)) x with
   | true,some y=>(.ret y,h.nx, [])
   | _,_=>(.ret x,S.nx,ddp S.l)
def xsv (run:XRun) (b:Bool) (h:IH):Nat→Code→qaa→qaB→Option (Exit × qaB × qaa)
 | 0,_,_,_=>none
 | n+1,c,S,u=>
   match c with
   | .seq x y=>match xsv run b h n x S u with
     | some (.normal,u',S')=>xsv run b h n y S' u'
     | some (.ret,u',S')=>some (.ret,u',S')
     | some (.panic ch,u',S')=>some (.panic ch,u',S')
     | _=>none
   | .region _ ⟨⟨dst, .call {callee:= .builtin .recover,args:=⟨[]⟩,argTypes:=_},_,_,_,none⟩::rest⟩ false=>
     match qaE S dst && rest.all ncOp with
     | true=>match run b h [.ops c.opsOf rest] (S.put dst (.p (.sc (qaU u).1)) S.nx []) with
       | some (.normal,S')=>some (.normal,(qaU u).2,S')
       | some (.panic ch,S')=>some (.panic ch,(qaU u).2,S')
       | _=>none
     | false=>none
   | c=>match run b h [.code c] S with
     | some (.normal,S')=>some (.normal,u,S')
     | some (.ret,S')=>some (.ret,u,S')
     | some (.panic ch,S')=>some (.panic ch,u,S')
     | _=>none
def xcd (run:XRun) (z:FuncId→Bool) (P:Program) (c:FuncId) (zs:List IV) (h:IH) (u:qaB):Option (IEnd × qaB × Nat × List (Nat × IBlk)):=
 match P.funcs[c]? with
 | some fn=>match fn.body with
   | some body=>match Nat.ble zs.length fn.ntmps with
     | true=>match xsv run (z c) h 1000 body (start fn.ntmps zs h) u with
       | some (e,u',S)=>match S.d,Nat.ble h.nx S.nx with
         | [],true=>match e with
           | .normal=>match ires P S (S.l++h.m) fn.results.toList with
             | some x=>some (.ret x,u',S.nx,ddp S.l)
             | none=>none
           | .ret=>match ires P S (S.l++h.m) fn.results.toList with
             | some x=>some (.ret x,u',S.nx,ddp S.l)
             | none=>none
           | .panic ch=>some (.pan ch,u',S.nx,ddp S.l)
           | _=>none
         | _,_=>none
       | none=>none
     | false=>none
   | none=>none
 | none=>none
def xld (run:XRun) (z:FuncId→Bool) (P:Program) (fn:Func) (b:Bool) (h:IH):List IDef→qaa→qaB→Option (IEnd × Nat × List (Nat × IBlk))
 | [],S,u=>match Nat.ble h.nx S.nx with
   | true=>match u with
     | .ret=>match ires P {S with d:= []} (S.l++h.m) fn.results.toList with
       | some x=>some (xret b h x {S with d:= []})
       | none=>none
     | .pan ch=>some (.pan ch,S.nx,ddp S.l)
   | false=>none
 | ⟨.func f,cap,args⟩::ds,S,u=>match fnOk P f with
   | true=>match xcd run z P f (args++cap) ⟨S.nx,S.l++h.m⟩ u with
     | some (.ret _,u',nx',l')=>xld run z P fn b h ds {S with nx:=nx',l:=l'++S.l} (qb7 u')
     | some (.pan ch,u',nx',l')=>xld run z P fn b h ds {S with nx:=nx',l:=l'++S.l} (qeC u' ch)
     | none=>none
   | false=>none
 | _::_,_,_=>none
def xmk (P:Program) (fn:Func) (b:Bool) (h:IH) (S:qaa):Option (IEnd × Nat × List (Nat × IBlk)):=
 match dropMarks h S.d S.l with
 | some l1=>match Nat.ble h.nx S.nx,ires P {S with d:= [],l:=l1} (l1++h.m) fn.results.toList with
   | true,some x=>some (xret b h x {S with d:= [],l:=l1})
   | _,_=>none
 | none=>none
def qpH:List IDef→Bool
 | ⟨.yield _,_,_⟩::_=>true
 | _=>false
def xend (run:XRun) (z:FuncId→Bool) (P:Program) (fn:Func) (b:Bool) (h:IH) (S:qaa) (u:qaB):Option (IEnd × Nat × List (Nat × IBlk)):=
 match qpH S.d,u with
 | true, .ret=>xmk P fn b h S
 | _,_=>xld run z P fn b h S.d S u
def xf (run:XRun) (z:FuncId→Bool) (P:Program) (b:Bool) (c:FuncId) (zs:List IV) (h:IH):Option (IEnd × Nat × List (Nat × IBlk)):=
 match P.funcs[c]? with
 | some fn=>match fn.body with
   | some body=>match Nat.ble zs.length fn.ntmps with
     | true=>match run (z c) h [.code body] (start fn.ntmps zs h) with
       | some (.normal,S)=>xend run z P fn b h S .ret
       | some (.ret,S)=>xend run z P fn b h S .ret
       | some (.panic ch,S)=>xend run z P fn b h S (.pan ch)
       | _=>none
     | false=>none
   | none=>none
 | none=>none
def qcW (P:Program) (run:XRun):Prop:= ∀b h k S e S',run b h k S=some (e,S')→ ∀Q:Exit→qaa→Prop,Q e S'→IRun P h k S Q
theorem qch {h:IH} {S:qaa} {x:IV} (hd:S.d= []) (hn:h.nx≤S.nx):qcl h [] S x x S.nx (ddp S.l):=by
 refine⟨⟨rfl,rfl, .inl hd,hn,Nat.le_refl _,by simp,fun p hp=>?_,fun p hp=> .inr (qdT hp),by simp⟩, .refl x, .inl rfl⟩
 have:=qdU hp
 exact⟨p.2,by rw [qad,this], .refl _, .inl rfl⟩
theorem qiw {b:Bool} {h:IH} {x:IV} {S:qaa} {r:IEnd} {nx:Nat} {l:List (Nat × IBlk)} (hx:xret b h x S=(r,nx,l)) (hd:S.d= []) (hn:h.nx≤S.nx): ∃y ids,r= .ret y∧qcl h ids S x y nx l:=by
 have all: ∀ {r nx l},(IEnd.ret x,S.nx,ddp S.l)=(r,nx,l)→ ∃y ids,r= .ret y∧qcl h ids S x y nx l:=by
  intro r nx l e
  cases e
  exact⟨x, [],rfl,qch hd hn⟩
 unfold xret at hx
 split at hx
 ·exact all hx
 ·split at hx
  ·rename_i y h1 h2
   cases hx
   simp only [Bool.and_eq_true] at h1
   exact⟨y,refs x,rfl,leave_frz hd hn (qiO h1.1) (qiO h1.2) h2⟩
  ·exact all hx
theorem qqb {run:XRun} {b:Bool} {h:IH} (hrun:qcW P run): ∀(n:Nat) (c:Code) (S:qaa) (u:qaB) (e:Exit) (u':qaB) (S':qaa),xsv run b h n c S u=some (e,u',S')→
  ICodeS P h c S u (fun e1 u1 S1=>e1=e∧u1=u'∧S1=S')∧e≠ .outgrown:=by
 intro n
 induction n with
 | zero=>intro c S u e u' S' hx;cases hx
 | succ n ih=>
   intro c S u e u' S' hx
   unfold xsv at hx
   split at hx
   ·rename_i x y
    split at hx<;>try cases hx
    ·rename_i u1 S1 h1
     obtain⟨k1,k2⟩:=ih _ _ _ _ _ _ hx
     refine⟨qd6 fun M0 hM0 M a hs hr c₀ cs hu=>qcJ ((ih _ _ _ _ _ _ h1).1 M0 hM0 M a hs hr c₀ cs hu) ?_,k2⟩
     rintro e1 a1 cs1 w1 ⟨u2,hcs,M',S2,q1,q2,q3,rfl,rfl,rfl⟩
     exact⟨u2,hcs,M',S2,q1,q2,q3,k1⟩
    ·rename_i h1
     refine⟨qd6 fun M0 hM0 M a hs hr c₀ cs hu=>qcJ ((ih _ _ _ _ _ _ h1).1 M0 hM0 M a hs hr c₀ cs hu) ?_,(by intro h;cases h)⟩
     rintro e1 a1 cs1 w1 ⟨u2,hcs,M',S2,q1,q2,q3,rfl,rfl,rfl⟩
     exact⟨u2,hcs,M',S2,q1,q2,q3,rfl,rfl,rfl⟩
    ·rename_i ch h1
     refine⟨qd6 fun M0 hM0 M a hs hr c₀ cs hu=>qcJ ((ih _ _ _ _ _ _ h1).1 M0 hM0 M a hs hr c₀ cs hu) ?_,(by intro h;cases h)⟩
     rintro e1 a1 cs1 w1 ⟨u2,hcs,M',S2,q1,q2,q3,rfl,rfl,rfl⟩
     exact⟨u2,hcs,M',S2,q1,q2,q3,rfl,rfl,rfl⟩
   ·rename_i id dst ts ty pos aft rest
    split at hx<;>try cases hx
    rename_i hd
    rw [Bool.and_eq_true] at hd
    split at hx<;>try cases hx
    ·rename_i S1 h1
     exact⟨qdv hd.1 (fun S h=>by cases h.1) hd.2 (hrun _ _ _ _ _ _ h1 _ ⟨rfl,rfl,rfl⟩),(by intro h;cases h)⟩
    ·rename_i ch S1 h1
     exact⟨qdv hd.1 (fun S h=>by cases h.1) hd.2 (hrun _ _ _ _ _ _ h1 _ ⟨rfl,rfl,rfl⟩),(by intro h;cases h)⟩
   ·split at hx<;>try cases hx
    ·rename_i h1
     exact⟨qdj (hrun _ _ _ _ _ _ h1 _ ⟨rfl,rfl,rfl⟩),(by intro h;cases h)⟩
    ·rename_i h1
     exact⟨qdj (hrun _ _ _ _ _ _ h1 _ ⟨rfl,rfl,rfl⟩),(by intro h;cases h)⟩
    ·rename_i ch h1
     exact⟨qdj (hrun _ _ _ _ _ _ h1 _ ⟨rfl,rfl,rfl⟩),(by intro h;cases h)⟩
theorem xcd_sound {run:XRun} {z:FuncId→Bool} (hrun:qcW P run) {c:FuncId} {zs:List IV} {h:IH} {u u':qaB} {r:IEnd} {nx:Nat} {l:List (Nat × IBlk)} (hx:xcd run z P c zs h u=some (r,u',nx,l)) {Q:IEnd→qaB→Nat→List (Nat × IBlk)→Prop} (hq:Q r u' nx l):
  qkm P c zs h u Q:=by
 unfold xcd at hx
 split at hx<;>try cases hx
 rename_i fn hf
 split at hx<;>try cases hx
 rename_i body hb
 split at hx<;>try cases hx
 rename_i hn
 split at hx<;>try cases hx
 rename_i e u1 S he
 obtain⟨k1,k2⟩:=qqb hrun _ _ _ _ _ _ _ he
 split at hx<;>try cases hx
 rename_i hd hle
 refine icallD_of hf hb (Nat.le_of_ble_eq_true hn) fun M0 hM0 M a hs hr c₀ cs hu=>qcJ (k1 M0 hM0 M a hs hr c₀ cs hu) ?_
 rintro e1 a1 cs1 w1 ⟨u2,hcs,M',S2,q1,q2,q3,rfl,rfl,rfl⟩
 refine⟨u2,hcs,M',S2,q1,q2,q3,?_⟩
 split at hx<;>try cases hx
 ·split at hx<;>try cases hx
  rename_i x hres
  exact .norm _ S2 x _ _ hd hres (qch hd (Nat.le_of_ble_eq_true hle)) hq
 ·split at hx<;>try cases hx
  rename_i x hres
  exact .ret _ S2 x _ _ hd hres (qch hd (Nat.le_of_ble_eq_true hle)) hq
 ·exact .pan _ S2 _ _ _ hd (qch (x:= .dead) hd (Nat.le_of_ble_eq_true hle)).sub hq
theorem qqa {run:XRun} {z:FuncId→Bool} {b:Bool} (hrun:qcW P run) {fn:Func} {h:IH} {r:IEnd} {nx:Nat} {l:List (Nat × IBlk)} {Q:IEnd→Nat→List (Nat × IBlk)→Prop} (hq:Q r nx l):
  ∀(ds:List IDef) (S:qaa) (u:qaB),xld run z P fn b h ds S u=some (r,nx,l)→qbb P fn h Q S ds u:=by
 intro ds
 induction ds with
 | nil=>
   intro S u hx
   unfold xld at hx
   split at hx<;>try cases hx
   rename_i hle
   split at hx
   ·split at hx<;>try cases hx
    rename_i x hres
    obtain⟨y,ids,rfl,hl⟩:=qiw (Option.some.inj hx) rfl (Nat.le_of_ble_eq_true hle)
    exact qhZ hres hl hq
   ·cases hx
    exact leaves_pan (qch (S:= {S with d:= []}) (x:= .dead) rfl (Nat.le_of_ble_eq_true hle)).sub hq
 | cons d ds ih=>
   intro S u hx
   obtain⟨fnn,cap,args⟩:=d
   cases fnn with
   | func f=>
     simp only [xld] at hx
     split at hx<;>try cases hx
     rename_i hn
     split at hx<;>try cases hx
     ·rename_i h1
      exact leaves_call hn (xcd_sound hrun h1 (ih _ _ hx))
     ·rename_i h1
      exact leaves_call hn (xcd_sound hrun h1 (ih _ _ hx))
   | _=>simp only [xld] at hx;cases hx
theorem xend_sound {run:XRun} {z:FuncId→Bool} {b:Bool} (hrun:qcW P run) {f:FuncId} {fn:Func} {c:Code} {args:List IV} {h:IH} {r:IEnd} {nx:Nat} {l:List (Nat × IBlk)} {Q:IEnd→Nat→List (Nat × IBlk)→Prop} (hq:Q r nx l)
  (hf:P.funcs[f]? =some fn) (hb:fn.body=some c) (hn:args.length≤fn.ntmps) {e:Exit} {S:qaa} {u:qaB} (hx:xend run z P fn b h S u=some (r,nx,l))
  (he:(u= .ret∧(e= .normal∨e= .ret))∨ ∃ch,u= .pan ch∧e= .panic ch) (hc: ∀Q:Exit→qaa→Prop,Q e S→qbd P h c (start fn.ntmps args h) Q):qa5 P f args h Q:=by
 unfold xend at hx
 split at hx
 ·have he:e= .normal∨e= .ret:=by
   rcases he with ⟨_,h⟩ | ⟨ch,h,_⟩
   ·exact h
   ·cases h
  unfold xmk at hx
  split at hx<;>try cases hx
  rename_i l1 hl1
  split at hx<;>try cases hx
  rename_i x hle hres
  obtain⟨y,ids,rfl,hl⟩:=qiw (Option.some.inj hx) rfl (Nat.le_of_ble_eq_true hle)
  exact qoy hf hb hn (hc _ (.ret _ S l1 x y ids nx l he hl1 hres hl hq))
 ·refine qhP hf hb hn (hc _ ?_)
  have:=qqa hrun hq _ _ _ hx
  rcases he with ⟨rfl,rfl | rfl⟩ | ⟨ch,rfl,rfl⟩<;>exact this
theorem qdf {run:XRun} {z:FuncId→Bool} {b:Bool} (hrun:qcW P run) {c:FuncId} {zs:List IV} {h:IH} {r:IEnd} {nx:Nat} {l:List (Nat × IBlk)} (hx:xf run z P b c zs h=some (r,nx,l)) {Q:IEnd→Nat→List (Nat × IBlk)→Prop} (hq:Q r nx l):
  qa5 P c zs h Q:=by
 unfold xf at hx
 split at hx<;>try cases hx
 rename_i fn hf
 split at hx<;>try cases hx
 rename_i body hb
 split at hx<;>try cases hx
 rename_i hn
 split at hx<;>try cases hx
 ·rename_i S he
  exact xend_sound hrun hq hf hb (Nat.le_of_ble_eq_true hn) hx (.inl ⟨rfl, .inl rfl⟩) (hrun _ h _ _ _ _ he)
 ·rename_i S he
  exact xend_sound hrun hq hf hb (Nat.le_of_ble_eq_true hn) hx (.inl ⟨rfl, .inr rfl⟩) (hrun _ h _ _ _ _ he)
 ·rename_i ch S he
  exact xend_sound hrun hq hf hb (Nat.le_of_ble_eq_true hn) hx (.inr ⟨ch,rfl,rfl⟩) (hrun _ h _ _ _ _ he)
def xp (run:XRun) (z:FuncId→Bool) (P:Program) (c:FuncId) (zs:List IV):Option IV:=
 match qbO.goB zs with
 | true=>match xf run z P true c zs ⟨0, []⟩ with
   | some (.ret y,nx, [])=>match Nat.beq nx 0 && qbO y with
     | true=>some y
     | false=>none
   | _=>none
 | false=>none
theorem qg6 {run:XRun} {z:FuncId→Bool} (hrun:qcW P run) {c:FuncId} {zs:List IV} {y:IV} (hx:xp run z P c zs=some y):PCall P c zs [] y∧bel 0 y:=by
 unfold xp at hx
 split at hx<;>try cases hx
 rename_i hz
 split at hx<;>try cases hx
 rename_i nx h1
 split at hx<;>try cases hx
 rename_i hy
 simp only [Bool.and_eq_true] at hy
 have h0:=Nat.eq_of_beq_eq_true hy.1
 have hb:=qjC 0 y hy.2
 exact⟨qib (qgW 0 zs hz) hb (qdf hrun h1 ⟨y,rfl,wk_refl y,h0,rfl⟩),hb⟩
def seen (G:Nat→Option IBlk):List Nat→List (Nat × IBlk)
 | []=> []
 | b::r=>match G b with
   | some blk=>(b,blk)::seen G r
   | none=>seen G r
theorem seen_spec {G:Nat→Option IBlk}: ∀ {l:List Nat},∀p∈seen G l,G p.1=some p.2
 | [],p,h=>by cases h
 | b::r,p,h=>by
   unfold seen at h
   split at h
   ·rename_i blk hb
    rcases List.mem_cons.1 h with rfl | h
    ·exact hb
    ·exact seen_spec p h
   ·exact seen_spec p h
def xview (pc:FuncId→List IV→Option IV) (G:Nat→Option IBlk) (c:FuncId) (zs:List IV):Option (IV × List (Nat × IBlk)):=
 match qaK zs with
 | []=>match pc c zs with
   | some x=>some (x, [])
   | none=>none
 | ids=>match frzs (look (seen G ids)) zs with
   | some zs'=>match pc c zs' with
     | some x=>match qb1 x with
       | true=>some (x,seen G ids)
       | false=>none
     | none=>none
   | none=>none
theorem qno {pc:FuncId→List IV→Option IV} (hpc: ∀c zs x,pc c zs=some x→PCall P c zs [] x∧bel 0 x) {G:Nat→Option IBlk} {c:FuncId} {zs:List IV} {x:IV} {R:List (Nat × IBlk)} (h:xview pc G c zs=some (x,R)):
  PCall P c zs R x∧bel 0 x∧ ∀p∈R,G p.1=some p.2:=by
 unfold xview at h
 split at h
 ·split at h<;>try cases h
  rename_i hx
  exact⟨(hpc _ _ _ hx).1,(hpc _ _ _ hx).2,by simp⟩
 ·split at h<;>try cases h
  rename_i hz
  split at h<;>try cases h
  rename_i hx
  split at h<;>try cases h
  rename_i hs
  exact⟨qic hz hs (hpc _ _ _ hx).1,(hpc _ _ _ hx).2,seen_spec⟩
def xeff (ef:FuncId→List IV→IH→Option (IEnd × Nat × List (Nat × IBlk))) (G:Nat→Option IBlk) (nx:Nat) (c:FuncId) (zs:List IV):Option (IV × Nat × List (Nat × IBlk) × List (Nat × IBlk)):=
 match ef c zs ⟨nx,seen G (qc5 G 10000 (qaK zs) [])⟩ with
 | some (.ret x,nx',l)=>match Nat.ble nx nx' && qor nx (nx' - nx) (seen G (qc5 G 10000 (qaK zs) [])) l zs x with
   | true=>some (x,nx' - nx,seen G (qc5 G 10000 (qaK zs) []),l)
   | false=>none
 | _=>none
theorem drun_eff {ef:FuncId→List IV→IH→Option (IEnd × Nat × List (Nat × IBlk))} (hef: ∀c zs h r nx l,ef c zs h=some (r,nx,l)→qa5 P c zs h fun r' nx' l'=>r'=r∧nx'=nx∧l'=l)
  {all:Array Oper} {dst:Option Tmp} {ty:TypeId} {pos:String} {aft:Array Edge} {g:Option (Nat × Bool)} {r:List Oper} {S:qaa} {acc:List FP} {K:qaa→List FP→Prop} {f:Operand} {args:List Operand} {ts:Array TypeId} {n:FuncId} {zs:List IV} {x:IV} {k:Nat} {R l:List (Nat × IBlk)}
  (hw:qai all S.s ⟨dst, .call {callee:= .value f,args:=⟨args⟩,argTypes:=ts},ty,pos,aft,g⟩=some true) (hc:qas (ev S.s) f args=some (n,zs)) (hn:fnOk P n=true) (hd:dOk S.n dst=true)
  (hx:xeff ef (look (S.l++h0.m)) S.nx n zs=some (x,k,R,l))
  (h:DRun P h0 all r ⟨S.n,putS dst x S.s,S.d,S.nx+k,l++S.l⟩ (acc++ [(R.map (·.1),l.reverse.map (·.1))]) K):
  DRun P h0 all (⟨dst, .call {callee:= .value f,args:=⟨args⟩,argTypes:=ts},ty,pos,aft,g⟩::r) S acc K:=by
 unfold xeff at hx
 split at hx<;>try cases hx
 rename_i y nx' l1 h1
 split at hx<;>try cases hx
 rename_i hok
 simp only [Bool.and_eq_true] at hok
 have hle:=Nat.le_of_ble_eq_true hok.1
 obtain⟨h2,h3⟩:=qru (o:=⟨dst, .call {callee:= .value f,args:=⟨args⟩,argTypes:=ts},ty,pos,aft,g⟩) rfl hc hn hok.2 ((hef _ _ _ _ _ _ h1).mono fun r' nx1 l' ⟨e1,e2,e3⟩=>⟨e1,by omega,e3⟩)
 obtain⟨frs,S',k1,k2⟩:=h
 refine⟨⟨x,seen (look (S.l++h0.m)) (qc5 (look (S.l++h0.m)) 10000 (qaK zs) []),List.range' S.nx (nx' - S.nx),l.reverse⟩::frs,S', .op hw h2 ⟨seen_spec,fun b hb=>?_,fun p hp=>h3 p (by simpa using hp)⟩ hd ?_,by simpa [FR.fp] using k2⟩
 ·have:=List.mem_range'_1.1 hb
  simp only [List.length_range'];omega
 ·simpa using k1
def xd (pc:FuncId→List IV→Option IV) (ef:FuncId→List IV→IH→Option (IEnd × Nat × List (Nat × IBlk))) (P:Program) (h0:IH) (all:Array Oper):List Oper→qaa→List FP→Option (qaa × List FP)
 | [],S,acc=>some (S,acc)
 | o::r,S,acc=>
   match dOk S.n o.dst with
   | true=>match qai all S.s o with
     | some true=>match fop P (ev S.s) (look (S.l++h0.m)) S.nx all o.dst o.op with
       | some fr=>xd pc ef P h0 all r ⟨S.n,putS o.dst fr.x S.s,S.d,S.nx+fr.F.length,fr.W.reverse++S.l⟩ (acc++ [fr.fp])
       | none=>match o.op with
         | .call {callee:= .value f,args,argTypes:=_}=>match qas (ev S.s) f args.toList with
           | some (c,zs)=>match fnOk P c with
             | true=>match xview pc (look (S.l++h0.m)) c zs with
               | some (x,R)=>xd pc ef P h0 all r ⟨S.n,putS o.dst x S.s,S.d,S.nx,S.l⟩ (acc++ [(R.map (·.1), [])])
               | none=>match xeff ef (look (S.l++h0.m)) S.nx c zs with
                 | some (x,k,R,l)=>xd pc ef P h0 all r ⟨S.n,putS o.dst x S.s,S.d,S.nx+k,l++S.l⟩ (acc++ [(R.map (·.1),l.reverse.map (·.1))])
                 | none=>none
             | false=>none
           | none=>none
         | _=>none
     | some false=>xd pc ef P h0 all r ⟨S.n,putS o.dst (.tup []) S.s,S.d,S.nx,S.l⟩ (acc++ [([], [])])
     | none=>none
   | false=>none
theorem ql7 {pc:FuncId→List IV→Option IV} (hpc: ∀c zs x,pc c zs=some x→PCall P c zs [] x∧bel 0 x)
  {ef:FuncId→List IV→IH→Option (IEnd × Nat × List (Nat × IBlk))} (hef: ∀c zs h r nx l,ef c zs h=some (r,nx,l)→qa5 P c zs h fun r' nx' l'=>r'=r∧nx'=nx∧l'=l) {all:Array Oper} {K:qaa→List FP→Prop}:
  ∀(l:List Oper) (S:qaa) (acc:List FP) (S':qaa) (fps:List FP),xd pc ef P h0 all l S acc=some (S',fps)→K S' fps→DRun P h0 all l S acc K:=by
 intro l
 induction l with
 | nil=>intro S acc S' fps h hk;simp only [xd,Option.some.injEq,Prod.mk.injEq] at h;obtain⟨rfl,rfl⟩:=h;exact drun_nil hk
 | cons o r ih=>
   intro S acc S' fps h hk
   rw [xd] at h
   split at h<;>try cases h
   rename_i hd
   split at h<;>try cases h
   ·rename_i hw
    split at h
    ·rename_i fr hf
     exact drun_op hw hf hd (ih _ _ _ _ h hk)
    ·split at h<;>try cases h
     rename_i f args ts hop
     split at h<;>try cases h
     rename_i c zs hc
     split at h<;>try cases h
     rename_i hn
     obtain⟨dst,op,ty,pos,aft,g⟩:=o
     obtain⟨args⟩:=args
     simp only at hop;subst hop
     split at h
     ·rename_i x R hx
      obtain⟨h1,h2,h3⟩:=qno hpc hx
      exact qjd hw hc hn hd h3 h1 h2 (ih _ _ _ _ h hk)
     ·split at h<;>try cases h
      rename_i x k R l hx
      exact drun_eff hef hw hc hn hd hx (ih _ _ _ _ h hk)
   ·rename_i hw
    exact drun_skip hw hd (ih _ _ _ _ h hk)
def chkB (u:List (Option (List Nat))) (fps:List FP):Bool:=go fps u fps
where
 go (all:List FP):List (Option (List Nat))→List FP→Bool
  | ul::us,fp::fs=>(match fp.2 with
    | []=>true
    | b::w=>match ul with
      | none=>false
      | some l=>l.all fun i=>match all[i]? with
        | none=>true
        | some q=>(b::w).all fun c=>!q.1.contains c && !q.2.contains c) && go all us fs
  | _,_=>true
theorem qns {all:List FP}: ∀ {u:List (Option (List Nat))} {fs:List FP},chkB.go all u fs=true→qeS all u fs
 | [],_,_=>by simp [qeS]
 | _::_, [],_=>by simp [qeS]
 | ul::us,fp::fs,h=>by
   simp only [chkB.go,Bool.and_eq_true] at h
   refine⟨?_,qns h.2⟩
   have h1:=h.1
   cases hw:fp.2 with
   | nil=>trivial
   | cons b w=>
     rw [hw] at h1
     cases ul with
     | none=>cases h1
     | some l=>
       simp only [List.all_eq_true] at h1
       show apL all (b::w) l
       clear h hw
       induction l with
       | nil=>trivial
       | cons i l ih=>
         refine⟨?_,ih fun j hj=>h1 j (List.mem_cons_of_mem _ hj)⟩
         have:=h1 i (List.mem_cons_self ..)
         cases hi:all[i]? with
         | none=>trivial
         | some q=>
           rw [hi] at this
           intro c hc
           simp only [List.all_eq_true,Bool.and_eq_true,Bool.not_eq_true',List.contains_eq_mem,decide_eq_false_iff_not] at this
           exact this c hc
theorem qk4 {u:List (Option (List Nat))} {fps:List FP} (h:chkB u fps=true):chk u fps:=qns h
def qc2 (run:XRun) (b:Bool) (h:IH) (k:List It) (e:Exit) (S:qaa):Option (Exit × qaa):=
 match e with
 | .exit id=>match qbP id k with
   | some k'=>run b h k' S
   | none=>some (.exit id,S)
 | .ret=>some (.ret,S)
 | .panic ch=>some (.panic ch,S)
 | _=>none
theorem qeo {run:XRun} {b:Bool} (hrun:qcW P run) {h:IH} {k:List It} {e e':Exit} {S S':qaa} (hx:qc2 run b h k e S=some (e',S')) {Q:Exit→qaa→Prop} (hq:Q e' S'):after P h Q k e S:=by
 unfold qc2 at hx
 split at hx
 ·split at hx
  ·rename_i id k' hk
   exact after_exit hk (hrun _ _ _ _ _ _ hx _ hq)
  ·rename_i id hk
   cases hx
   exact after_exit_none hk hq
 ·cases hx;exact after_ret hq
 ·cases hx;exact after_panic hq
 ·cases hx
def xcallOf (s:List (Nat × IV)):Op→Option (FuncId × List IV)
 | .call {callee:= .value f,args,argTypes:=_}=>qas (ev s) f args.toList
 | _=>none
def xpanOf (s:List (Nat × IV)):Op→Option Value
 | .panic x=>match ev s x with
   | some (.p (.sc (.iface t v)))=>some (.iface t v)
   | _=>none
 | _=>none
def xdefOf (s:List (Nat × IV)):Op→Option IDef
 | .defer {callee:= .value f,args,argTypes:=_}=>qfI (ev s) f args.toList
 | _=>none
def xop (run:XRun) (z:FuncId→Bool) (P:Program) (b:Bool) (h:IH) (all:Array Oper) (o:Oper) (S:qaa):Option (Exit × qaa):=
 match xapn P h o S with
 | some S'=>some (.normal,S')
 | none=>match fop P (ev S.s) (look (S.l++h.m)) S.nx all o.dst o.op with
 | some fr=>some (.normal,S.put o.dst fr.x (S.nx+fr.F.length) fr.W.reverse)
 | none=>match xcallOf S.s o.op with
   | some (c,zs)=>match fnOk P c with
     | true=>match xf run z P b c zs ⟨S.nx,S.l++h.m⟩ with
       | some (.ret x,nx,l)=>some (.normal,S.put o.dst x nx l)
       | some (.pan ch,nx,l)=>some (.panic ch, {S with nx,l:=l++S.l})
       | none=>none
     | false=>none
   | none=>match xpanOf S.s o.op with
     | some v=>some (.panic [{v:=v,recovered:=false}],S)
     | none=>match xdefOf S.s o.op with
       | some x=>some (.normal, {S.put o.dst (.tup []) S.nx [] with d:=x::S.d})
       | none=>none
theorem xop_sound {run:XRun} {z:FuncId→Bool} {b:Bool} (hrun:qcW P run) {h:IH} {all:Array Oper} {o:Oper} {r:List Oper} {S S':qaa} {e:Exit} (hw:qai all S.s o=some true) (hd:qaE S o.dst=true) (hx:xop run z P b h all o S=some (e,S'))
  {Q:Exit→qaa→Prop} (hn:e= .normal→IOps P h all r S' Q) (hq:(∀ch,e= .panic ch→Q e S')):IOps P h all (o::r) S Q:=by
 unfold xop at hx
 split at hx
 ·rename_i S1 h1
  cases hx
  exact xapn_sound h1 hw hd (hn rfl)
 split at hx
 ·rename_i fr hf
  cases hx
  exact iops_op hw hf hd (hn rfl)
 ·split at hx
  ·rename_i c zs hc
   split at hx<;>try cases hx
   rename_i hk
   unfold xcallOf at hc
   split at hc<;>try cases hc
   rename_i f args ts hop
   obtain⟨dst,op,ty,pos,aft,g⟩:=o
   obtain⟨args⟩:=args
   simp only at hop;subst hop
   split at hx<;>try cases hx
   ·rename_i x nx l hxf
    exact iops_call rfl hw hc hk hd (qdf hrun hxf (hn rfl))
   ·rename_i ch nx l hxf
    exact iops_call rfl hw hc hk hd (qdf hrun hxf (hq ch rfl))
  ·split at hx
   ·rename_i v hv
    cases hx
    unfold xpanOf at hv
    split at hv<;>try cases hv
    rename_i x hop
    split at hv<;>try cases hv
    rename_i t v' hev
    exact iops_panic hop hw hev (hq _ rfl)
   ·split at hx<;>try cases hx
    rename_i x hdf
    unfold xdefOf at hdf
    split at hdf<;>try cases hdf
    rename_i f args ts hop
    obtain⟨args⟩:=args
    exact qhU hop hw hdf hd (hn rfl)
def xr (P:Program) (z:FuncId→Bool):Nat→XRun
 | 0,_,_,_,_=>none
 | n+1,b,h,k,S=>match k with
   | []=>some (.normal,S)
   | .blk _::k=>xr P z n b h k S
   | .ops _ []::k=>xr P z n b h k S
   | .ops all (o::r)::k=>match qaE S o.dst with
     | true=>match qai all S.s o with
       | some true=>match xop (xr P z n) z P b h all o S with
         | some (.normal,S')=>xr P z n b h (.ops all r::k) S'
         | some (.panic ch,S')=>some (.panic ch,S')
         | _=>none
       | some false=>xr P z n b h (.ops all r::k) (S.put o.dst (.tup []) S.nx [])
       | none=>none
     | false=>none
   | .code c::k=>match c with
     | .skip=>xr P z n b h k S
     | .label _=>xr P z n b h k S
     | .seq x y=>xr P z n b h (.code x:: .code y::k) S
     | .block id c=>xr P z n b h (.code c:: .blk id::k) S
     | .exit id=>qc2 (xr P z n) b h k (.exit id) S
     | .ret=>some (.ret,S)
     | .cond c x y=>match ev S.s c with
       | some (.p (.sc (.bool true)))=>xr P z n b h (.code x::k) S
       | some (.p (.sc (.bool false)))=>xr P z n b h (.code y::k) S
       | _=>none
     | .region _ ops false=>xr P z n b h (.ops ops ops.toList::k) S
     | .region _ ops true=>match xd (xp (xr P z n) z P) (xf (xr P z n) z P b) P h ops ops.toList S [] with
       | some (S',fps)=>match P.follows .mixedOrders,stat ops.toList (uGo (qaV ops.toList []) 0 ops.toList),chkB (uGo (qaV ops.toList []) 0 ops.toList) fps with
         | true,true,true=>xr P z n b h k S'
         | _,_,_=>none
       | none=>none
     | .loop c=>match xr P z n b h [.code c] S with
       | some (.normal,S')=>xr P z n b h (.code (.loop c)::k) S'
       | some (e,S')=>qc2 (xr P z n) b h k e S'
       | none=>none
     | .scope c=>match xr P z n b h [.code c] S with
       | some (.normal,S')=>xr P z n b h k S'
       | some (e,S')=>qc2 (xr P z n) b h k e S'
       | none=>none
     | _=>none
def qf9 (P:Program) (h0:IH) (c:Code) (Q:Exit→qaa→Prop) (m:Nat) (S:qaa):Prop:=
 ∀M0,HRel h0.nx h0.m M0→ ∀M a,qae M0 M→SRel h0 S M a→ ∀ro,RoOk ro (ndC c)→Code.roundsIn (Wd ro) 0 P c (qcA h0 M0 Q) m a M.w
theorem qfJ {c:Code} {Q:Exit→qaa→Prop} {m:Nat} {S:qaa} (h:qbd P h0 c S fun e S'=>match e with | .normal=>qf9 P h0 c Q m S' | e=>Q e S'):qf9 P h0 c Q (m+1) S:=by
 intro M0 hM0 M a hs hr ro hro
 rw [roundsIn_succ]
 refine wpIn_mono (h M0 hM0 M a hs hr ro hro) ?_
 rintro e a' w' ⟨M',S',rfl,h2,h3,h4⟩
 cases e with
 | normal=>exact h4 M0 hM0 M' a' h2 h3 ro hro
 | exit i=>exact⟨M',S',rfl,h2,h3,h4⟩
 | goto i=>exact⟨M',S',rfl,h2,h3,h4⟩
 | ret=>exact⟨M',S',rfl,h2,h3,h4⟩
 | panic c=>exact⟨M',S',rfl,h2,h3,h4⟩
 | outgrown=>exact⟨M',S',rfl,h2,h3,h4⟩
end Go.Idl
