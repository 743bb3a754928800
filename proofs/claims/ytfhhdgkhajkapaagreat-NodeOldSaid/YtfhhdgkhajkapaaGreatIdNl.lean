/- Facts that the proofs of this claim lean on. -/
import Derived.Test.YtfhhdgkhajkapaaGreatIdZ
import Derived.ProofKit
import Derived.SizedLaws
import Derived.Carry
set_option linter.unusedSimpArgs false
set_option linter.unusedVariables false
/-
 From what a row says of its arguments to the ideal machine: plain data that is handed in.
-/
namespace Go.Idl
open Go.ChangeShapes Go.WideShapes Go.RowKit
def qb3 (W:World) (xs:List PV) (cs:List Value):Prop:=
 xs.length=cs.length∧ ∀(j:Nat) (x:PV) (v:Value),xs[j]? =some x→cs[j]? =some v→v.oneCell'=true∧PRel W (fun _=>False) x v
def qak {α:Type} (P:Program) (t:TypeId) (f:α→List PV) (good:α→Prop):Prop:=
 ∀ {H:Type} (enc:TypeId × Value→H) (W:World) (base:Nat) (sp:Nat→Bool) (held:Bool) (fuel:Nat) (cs:List Value) (d:DataW H) (ps:List MemPlace),
   DataW.trod enc P W base sp held fuel t cs=some (d,ps)→(∀n∈d.weights P t,n≤reachBytes)→ ∃a,good a∧qb3 W (f a) cs
variable {P:Program} {t e:TypeId} {α β:Type} {f:α→List PV} {g:β→List PV} {good:α→Prop} {good':β→Prop}
theorem qb3.one {W:World} {x:PV} {v:Value} (h1:v.oneCell'=true) (h:PRel W (fun _=>False) x v):qb3 W [x] [v]:=by
 refine⟨rfl,fun j y u hy hu=>?_⟩
 cases j with
 | zero=>simp at hy hu;subst hy;subst hu;exact⟨h1,h⟩
 | succ j=>simp at hy
theorem qb3.append {W:World} {xs ys:List PV} {cs ds:List Value} (h:qb3 W xs cs) (k:qb3 W ys ds):qb3 W (xs++ys) (cs++ds):=by
 refine⟨by simp [h.1,k.1],fun j y u hy hu=>?_⟩
 by_cases hj:j < xs.length
 ·rw [List.getElem?_append_left hj] at hy
  rw [List.getElem?_append_left (by rw [←h.1];exact hj)] at hu
  exact h.2 j y u hy hu
 ·rw [List.getElem?_append_right (by omega)] at hy
  rw [List.getElem?_append_right (by rw [←h.1];omega),←h.1] at hu
  exact k.2 _ y u hy hu
theorem qpP {k:IntKind} (hu:P.underlying t=some (.int k)):qak P t (fun n:Int=> [.sc (.int k n)]) fun n=>k.min≤n∧n≤k.max:=by
 intro H enc W base sp held fuel cs d ps h _
 obtain⟨n,rfl,hx,hw⟩:=DataW.trod_int hu h
 simp only [Lit.wf,Bool.and_eq_true,decide_eq_true_eq] at hw
 exact⟨n,hw, .one rfl (.sc _)⟩
theorem qoP (hu:P.underlying t=some .bool):qak P t (fun b:Bool=> [.sc (.bool b)]) fun _=>True:=by
 intro H enc W base sp held fuel cs d ps h _
 obtain⟨n,rfl,hx⟩:=DataW.trod_bool hu h
 exact⟨n,trivial, .one rfl (.sc _)⟩
theorem ql4 {H:Type} {d:DataW H} {l:List (DataW H)} (h:d∈l): ∀n∈d.weights P e,n∈DataW.weightsAll P e l:=by
 induction l with
 | nil=>cases h
 | cons x l ih=>
   intro n hn
   simp only [DataW.weightsAll,List.mem_append]
   rcases List.mem_cons.1 h with rfl | h
   ·exact .inl hn
   ·exact .inr (ih h n hn)
theorem list_of {γ:Type} {p:Nat→γ→Prop}: ∀n:Nat,(∀i,i < n→ ∃a,p i a)→ ∃l:List γ,l.length=n∧ ∀(i:Nat) (a:γ),l[i]? =some a→p i a
 | 0,_=>⟨[],rfl,by simp⟩
 | n+1,h=>by
   obtain⟨l,hl,hp⟩:=list_of n fun i hi=>h i (by omega)
   obtain⟨a,ha⟩:=h n (by omega)
   refine⟨l++ [a],by simp [hl],fun i b hb=>?_⟩
   by_cases hi:i < n
   ·rw [List.getElem?_append_left (by omega)] at hb;exact hp i b hb
   ·have hlt:=qab hb
    simp only [List.length_append,List.length_cons,List.length_nil] at hlt
    obtain rfl:i=n:=by omega
    rw [List.getElem?_append_right (by omega)] at hb
    simp [hl] at hb;subst hb;exact ha
theorem qa8 {sz by_:Nat} (hu:P.underlying t=some (.slice e)) (hc:P.cellsOf e=sz) (hz:0 < sz) (hb:P.bytesOf e=by_) (h:qak P e f good):
  qak P t (fun l:List α=> [.imm sz (pr f l)]) fun l=>(∀a∈l,good a)∧l.length * by_≤reachBytes∧l.length≤maxLen:=by
 intro H enc W base sp held fuel cs d ps ht hw
 rcases DataW.trod_slice hu ht with ⟨rfl,hx⟩ | ⟨a,len,cap,elems,rest,n,rfl,rfl,hx,hba,hlc,hcm,hlen,hel, -, -⟩
 ·refine⟨[],⟨by simp,by simp [reachBytes],by simp⟩, .one rfl ?_⟩
  exact .imm sz [] none 0 0 0 (fun _ _=>undef) (Nat.le_refl _) (Nat.zero_le _) (fun h=>absurd h (by simp)) (by simp) (by simp) (by simp)
 ·simp only [Prod.mk.injEq] at hx
  obtain⟨rfl, -⟩:=hx
  have hw1:(elems.length+rest.length) * by_≤reachBytes:=by
   have:=hw ((elems.length+rest.length) * P.bytesOf e) (by simp [DataW.weights,hu])
   rwa [hb] at this
  have key: ∀i,i < len→ ∃x:α,good x∧ ∃cs',W.cells? base (a.add (i * sz)) sz=some cs'∧qb3 W (f x) cs':=by
   intro i hi
   have h1:=hel i hi
   rw [List.getElem?_eq_getElem (by omega),hc] at h1
   obtain⟨cs',h2,h3⟩:=Option.bind_eq_some_iff.1 h1
   obtain⟨x,hx1,hx2⟩:=h enc W base sp held n cs' elems[i].1 elems[i].2 h3 (fun k hk=>hw k (by
    have:=ql4 (P:=P) (e:=e) (l:=elems.map (·.1)) (List.mem_map_of_mem (List.getElem_mem (show i < elems.length by omega))) k hk
    simp only [DataW.weights,hu,List.mem_cons,List.mem_append]
    first | exact .inr this | exact .inr (.inl this)))
   exact⟨x,hx1,cs',h2,hx2⟩
  obtain⟨l,hl,hp⟩:=list_of len key
  subst hl
  refine⟨l,⟨fun x hx=>?_,?_,by omega⟩, .one rfl ?_⟩
  ·obtain⟨i,hi,rfl⟩:=List.getElem_of_mem hx
   exact(hp i _ (List.getElem?_eq_getElem hi)).1
  ·refine Nat.le_trans (Nat.mul_le_mul_right _ ?_) hw1;omega
  ·have hspot:0 < l.length→a.spot=none∧a.block < W.heap.size:=by
    intro h0
    obtain⟨_,cs',h2,_⟩:=hp 0 _ (List.getElem?_eq_getElem h0)
    refine⟨?_,?_⟩
    ·obtain⟨_,hlen',hcl⟩:=World.cells?_some h2
     have h0':=hcl 0 hz
     have hlt:0 < cs'.length:=by omega
     rw [List.getElem?_eq_getElem hlt] at h0'
     simpa [Addr.add] using World.cell?_spot h0'
    ·simpa [Addr.add] using World.cells?_block h2 hz
   have hpl:(pr f l).length=l.length:=qpV
   rw [←hpl]
   refine .mk_imm (c:=a.block) (o:=a.off) (by rw [hpl];exact hlc) hcm (fun h0=>?_) (fun i row hi=>?_) (fun i row j x hi hj=>?_)
   ·rw [hpl] at h0
    obtain⟨h1,h2⟩:=hspot h0
    refine⟨?_,h2,fun h=>h⟩
    obtain⟨b,o,s⟩:=a
    simp at h1;subst h1;rfl
   ·simp only [pr,List.getElem?_map,Option.map_eq_some_iff] at hi
    obtain⟨x,hx,rfl⟩:=hi
    obtain⟨_,cs',h2,h3⟩:=hp i x hx
    rw [h3.1]
    exact(World.cells?_some h2).2.1
   ·simp only [pr,List.getElem?_map,Option.map_eq_some_iff] at hi
    obtain⟨y,hy,rfl⟩:=hi
    obtain⟨_,cs',h2,h3⟩:=hp i y hy
    obtain⟨_,hl',hcl⟩:=World.cells?_some h2
    have hjl:=qab hj
    rw [h3.1] at hjl
    have hcj:=List.getElem?_eq_getElem hjl
    have h4:=hcl j (by omega)
    rw [hcj] at h4
    obtain⟨g1,g2⟩:=h3.2 j x _ hj hcj
    refine⟨_,?_,g1,g2⟩
    obtain⟨hs1,_⟩:=hspot (by have:=qab hy;omega)
    obtain⟨b,o,s⟩:=a
    simp at hs1;subst hs1
    rw [qbj,qbj,Nat.add_assoc] at h4
    exact h4
theorem qak.map {γ:Type} {k:γ→List PV} {goodk:γ→Prop} (h:qak P t f good) (m:α→γ) (hm: ∀a,k (m a)=f a) (hg: ∀a,good a→goodk (m a)):qak P t k goodk:=by
 intro H enc W base sp held fuel cs d ps ht hw
 obtain⟨a,h1,h2⟩:=h enc W base sp held fuel cs d ps ht hw
 exact⟨m a,hg a h1,by rw [hm];exact h2⟩
/-! ### structs -/
theorem qoO {x:Field} {off:Nat} (ho:x.offset=off) (h:qak P x.type f good): ∀ {total:Nat},off+P.cellsOf x.type=total→
  ∀ {H:Type} (enc:TypeId × Value→H) (W:World) (base:Nat) (sp:Nat→Bool) (held:Bool) (n:Nat) (cs:List Value) (xs:List (DataW H × List MemPlace)),cs.length=total→
  xs.length=1→(∀(i:Nat) (y:Field), [x][i]? =some y→DataW.trod enc P W base sp held n y.type ((cs.drop y.offset).take (P.cellsOf y.type))=xs[i]?)→
  (∀k∈DataW.weightsEach P [x.type] (xs.map (·.1)),k≤reachBytes)→ ∃a,good a∧qb3 W (f a) (cs.drop off):=by
 intro total ht H enc W base sp held n cs xs hcs hl hx hw
 match xs,hl with
 | [y],_=>
   have:=hx 0 x rfl
   simp only [List.getElem?_cons_zero,ho] at this
   rw [List.take_of_length_le (by simp;omega)] at this
   exact h enc W base sp held n _ y.1 y.2 this fun k hk=>hw k (by simp [DataW.weightsEach,hk])
def qg9 {α:Type} (P:Program) (fs:List Field) (off total:Nat) (f:α→List PV) (good:α→Prop):Prop:=
 ∀ {H:Type} (enc:TypeId × Value→H) (W:World) (base:Nat) (sp:Nat→Bool) (held:Bool) (n:Nat) (cs:List Value) (xs:List (DataW H × List MemPlace)),cs.length=total→
   xs.length=fs.length→(∀(i:Nat) (y:Field),fs[i]? =some y→DataW.trod enc P W base sp held n y.type ((cs.drop y.offset).take (P.cellsOf y.type))=xs[i]?)→
   (∀k∈DataW.weightsEach P (fs.map (·.type)) (xs.map (·.1)),k≤reachBytes)→ ∃a,good a∧qb3 W (f a) (cs.drop off)
theorem qbl {x:Field} {off total:Nat} (ho:x.offset=off) (ht:off+P.cellsOf x.type=total) (h:qak P x.type f good):qg9 P [x] off total f good:=
 qoO ho h ht
theorem qao {x:Field} {fs:List Field} {off off' total:Nat} (ho:x.offset=off) (hn:off+P.cellsOf x.type=off') (h:qak P x.type f good) (hf:qg9 P fs off' total g good'):
  qg9 P (x::fs) off total (fun a:α × β=>f a.1++g a.2) fun a=>good a.1∧good' a.2:=by
 intro H enc W base sp held n cs xs hcs hl hx hw
 match xs,hl with
 | y::ys,hl=>
   have h0:=hx 0 x rfl
   simp only [List.getElem?_cons_zero,ho] at h0
   obtain⟨a,a1,a2⟩:=h enc W base sp held n _ y.1 y.2 h0 fun k hk=>hw k (by simp [DataW.weightsEach,hk])
   obtain⟨b,b1,b2⟩:=hf enc W base sp held n cs ys hcs (by simpa using hl) (fun i z hz=>hx (i+1) z (by simpa using hz)) fun k hk=>hw k (by simp [DataW.weightsEach,hk])
   refine⟨(a,b),⟨a1,b1⟩,?_⟩
   have:=a2.append b2
   have e:(cs.drop off).take (P.cellsOf x.type)++cs.drop off'=cs.drop off:=by
    rw [←hn,←List.drop_drop,List.take_append_drop]
   rwa [e] at this
theorem qa7 {fs:List Field} {total:Nat} (hu:P.underlying t=some (.struct fs.toArray)) (hc:P.cellsOf t=total) (h:qg9 P fs 0 total f good):qak P t f good:=by
 intro H enc W base sp held fuel cs d ps ht hw
 obtain⟨xs,n,rfl,hx,hcs,hl,hf⟩:=DataW.trod_struct hu ht
 simp only [Prod.mk.injEq] at hx
 obtain⟨rfl, -⟩:=hx
 obtain⟨a,h1,h2⟩:=h enc W base sp held n cs xs (hcs.trans hc) (by simpa using hl) (fun i y hy=>hf i y (by simpa using hy)) fun k hk=>hw k (by
  have:fs.map (·.type)=(fs.toArray.map (·.type)).toList:=by simp
  simp only [DataW.weights,hu]
  first | exact hk | simpa using hk)
 exact⟨a,h1,by simpa using h2⟩
theorem qpQ {sz:Nat} (hu:P.underlying t=some (.array 2 e)) (hc:P.cellsOf t=2 * sz) (he:P.cellsOf e=sz) (h:qak P e f good):
  qak P t (fun a:α × α=>f a.1++f a.2) fun a=>good a.1∧good a.2:=by
 intro H enc W base sp held fuel cs d ps ht hw
 cases fuel with
 | zero=>simp [DataW.trod] at ht
 | succ n=>
   unfold DataW.trod at ht
   simp only [hu] at ht
   split at ht
   ·rename_i hlen
    simp only [Option.map_eq_some_iff] at ht
    obtain⟨xs,h1,h2⟩:=ht
    have hr:List.range 2= [0,1]:=rfl
    rw [hr] at h1
    simp only [List.mapM_cons,List.mapM_nil,Option.bind_eq_bind,Option.pure_def,Option.bind_eq_some_iff,Option.some.injEq] at h1
    obtain⟨y0,g0,y,⟨y1,g1,z,rfl,rfl⟩,rfl⟩:=h1
    simp only [Prod.mk.injEq] at h2
    obtain⟨rfl, -⟩:=h2
    obtain⟨a,a1,a2⟩:=h enc W base sp held n _ y0.1 y0.2 g0 fun k hk=>hw k (by simp [DataW.weights,hu,DataW.weightsAll,hk])
    obtain⟨b,b1,b2⟩:=h enc W base sp held n _ y1.1 y1.2 g1 fun k hk=>hw k (by simp [DataW.weights,hu,DataW.weightsAll,hk])
    refine⟨(a,b),⟨a1,b1⟩,?_⟩
    have:=a2.append b2
    rw [he] at this
    have e:(cs.drop (0 * sz)).take sz++(cs.drop (1 * sz)).take sz=cs:=by
     rw [Nat.zero_mul,Nat.one_mul,List.drop_zero,List.take_of_length_le (l:=cs.drop sz) (by simp;omega),List.take_append_drop]
    rwa [e] at this
   ·cases ht
/-! ### arguments -/
def ArgIs (P:Program) (t:TypeId) (xs:List PV) (y:IV):Prop:=
 match P.underlying t with
 | some (.struct _) | some (.array _ _)=>y= .agg (xs.map .p)
 | _=> ∃x,xs= [x]∧y= .p x
theorem qrq {x:PV} (h:tag P t=some false):ArgIs P t [x] (.p x):=by
 unfold ArgIs
 unfold tag at h
 split<;>simp_all
theorem qrp {xs:List PV} (h:tag P t=some true):ArgIs P t xs (.agg (xs.map .p)):=by
 unfold ArgIs
 unfold tag at h
 cases hu:P.underlying t with
 | none=>simp [hu] at h
 | some d=>cases d<;>simp_all
def M0 (W:World):Mem:=⟨W,⟨fun _=>False,fun _=>none,fun _=>False⟩,fun _=>none⟩
theorem qo8 {W:World} (c:Nat): ¬(M0 W).own c:=fun h=>h.elim id fun⟨_,_,_,_,h,_⟩=>by cases h
theorem arg_rel {W:World} {r:Reach} {base:Nat} {v:Value} {xs:List PV} {y:IV} (hv:Value.okWide P W r base t v) (hy:ArgIs P t xs y) (hc:qb3 W xs v.cells.toList):VRel (M0 W) y v:=by
 have ho:(M0 W).own=fun _=>False:=by funext c;exact propext ⟨qo8 c,False.elim⟩
 have agg: ∀cs:Array Value,v= .agg cs→VRel (M0 W) (.agg (xs.map .p)) v:=by
  rintro⟨cs⟩ rfl
  have hc':qb3 W xs cs:=hc
  refine .agg _ cs (by simp [hc'.1]) (fun u hu=>?_) fun i x u hx hu=>?_
  ·obtain⟨i,hi,rfl⟩:=List.getElem_of_mem hu
   have hx:=List.getElem?_eq_getElem (show i < xs.length by rw [hc'.1];exact hi)
   exact(hc'.2 i _ _ hx (List.getElem?_eq_getElem hi)).1
  ·simp only [List.getElem?_map,Option.map_eq_some_iff] at hx
   obtain⟨x,hx,rfl⟩:=hx
   exact .p _ _ (by rw [ho];exact(hc'.2 i x u hx hu).2)
 unfold ArgIs at hy
 split at hy
 ·rename_i hu
  subst hy
  simp only [Value.okWide,hu] at hv
  obtain⟨cs,rfl,_⟩:=hv
  exact agg cs rfl
 ·rename_i hu
  subst hy
  simp only [Value.okWide,hu] at hv
  obtain⟨cs,rfl,_⟩:=hv
  exact agg cs rfl
 ·obtain⟨x,rfl,rfl⟩:=hy
  have hl:=hc.1
  have:v.cells= #[v]∨ ∃cs,v= .agg cs:=by
   cases v<;>first | exact .inl rfl | exact .inr ⟨_,rfl⟩
  rcases this with h1 | ⟨cs,rfl⟩
  ·rw [h1] at hc
   exact .p _ _ (by rw [ho];exact(hc.2 0 x v rfl rfl).2)
  ·rename_i h1 h2
   exfalso
   unfold Value.okWide at hv
   split at hv
   ·exact h1 _ ‹_›
   ·exact h2 _ _ ‹_›
   ·simp [Cell.okWide,Cell.ok] at hv
def qnp (W:World) (vs:List Value) (ys:List IV):Prop:=
 vs.length=ys.length∧ ∀(i:Nat) (y:IV) (v:Value),ys[i]? =some y→vs[i]? =some v→VRel (M0 W) y v
variable {H:Type} {enc:TypeId × Value→H} {W:World}
theorem qfn (hl:laidOutB P=true) {W':World} (hb:Below W.heap.size W W'): ∀ {ts:List TypeId} {vs:List Value} {ds:List (DataW H)} {ps:List MemPlace},
  (∀t∈ts,P.readableRec t=true∧t < P.types.size)→DataW.TrodAll enc P W 0 (fun _=>true) true ts vs ds ps→(∀x∈ps,x.block < W.heap.size)→
  DataW.TrodAll enc P W' 0 (fun b=>decide (b < W.heap.size)) true ts vs ds ps
 | [], [], [],ps,_,h,_=>h
 | t::ts,v::vs,d::ds,ps,hr,h,hlt=>by
   obtain⟨p,q,h1,h2,rfl⟩:=h
   obtain⟨r1,r2⟩:=hr t (List.mem_cons_self ..)
   exact⟨p,q,Below.trod hl r1 r2 h1 hb (fun x hx=>hlt x (List.mem_append_left _ hx)),qfn hl hb (fun t ht=>hr t (List.mem_cons_of_mem _ ht)) h2 (fun x hx=>hlt x (List.mem_append_right _ hx)),rfl⟩
 | [], [],_::_,_,_,h,_=>h.elim
 | [],_::_,_,_,_,h,_=>h.elim
 | _::_, [],_,_,_,h,_=>h.elim
 | _::_,_::_, [],_,_,h,_=>h.elim
theorem qlp {f:FuncId} {fn:Func} {s:ChangeSpec} {tb:TypeId} (hl:laidOutB P=true) (hres:fn.resultTypes= #[tb]) (htb:P.underlying tb=some .bool)
  (hpar:fn.params.toList.all (fun t=>P.readableRec t && decide (t < P.types.size))=true) (hvars:s.vars= [])
  {args:Array Value} {ds gs:List (DataW H)} {before:List MemPlace} (hW:DataW.Whole enc P fn.params.toList s.vars false W args.toList ds gs before)
  (hspec:s.fn H (ds++ [])= {results:= [.lit (.bool true)],args:=ds})
  {ivs:List IV} (hargs:qnp W args.toList ivs) (hp:PCall P f ivs [] (scb true)):
  Calls P f args W fun e W'=> ∃v,e= .returned v∧s.post enc P fn false true false false W args v W':=by
 have hM:HRel 0 [] (M0 W):=⟨⟨fun _ _ h=>(by cases h),fun _ _ h=>(by cases h),fun _ _ _ _ _ _ _ _ _ h=>(by cases h),fun _ hc=>hc.elim,fun _ _ _ _ _ h=>(by cases h)⟩,fun b h=>h.elim,fun b=>rfl⟩
 have hA:=hp ⟨0, []⟩ (by simp) (M0 W) args.toList hM hargs.1 fun i y v hy hv=>hargs.2 i y v hy hv
 refine Calls.mono (show Calls P f args (M0 W).w _ from hA) ?_
 rintro e W' ⟨M',nx',l',r,rfl,st,hh,he,rfl,rfl,rfl⟩
 obtain⟨v,rfl,hv⟩:=he
 have:=hv.sc_inv;subst this
 have hb:Below W.heap.size W M'.w:=⟨st.os,st.tape,st.output,st.size,fun k hk=>(st.keep k hk (qo8 k)).1⟩
 have hW':=hW
 obtain⟨p,q,hA,hV,rfl,_,_⟩:=hW
 rw [hvars] at hV
 obtain⟨rfl,rfl⟩:=trodVars_none hV
 have hlt: ∀x∈p,x.block < W.heap.size:=fun x hx=>by simpa using hW'.lt x (by simpa using hx)
 refine⟨_,rfl,ds, [],p++ [], [],p, [],hW',?_,?_,?_,hb.frame _,fun h=>by cases h⟩
 ·rw [hspec,hres];exact trodAll_mk1 (shut_bool htb true)
 ·rw [hspec]
  exact qfn hl hb (fun t ht=>by simpa using List.all_eq_true.1 hpar t ht) hA hlt
 ·rw [hspec,hvars];rfl
def qeG (P:Program) (ts:List TypeId) {γ:Type} (ivs:γ→List IV) (good:γ→Prop):Prop:=
 ∀ {H:Type} (enc:TypeId × Value→H) (W:World) (base:Nat) (vs:List Value) (ds:List (DataW H)) (ps:List MemPlace),
   (∀(j:Nat) (t:TypeId) (v:Value),ts[j]? =some t→vs[j]? =some v→Value.okWide P W .any base t v)→DataW.TrodAll enc P W 0 (fun _=>true) true ts vs ds ps→
   (∀n∈DataW.weightsEach P ts ds,n≤reachBytes)→ ∃a,good a∧qnp W vs (ivs a)
theorem qdQ:qeG P [] (fun _:Unit=> []) fun _=>True:=by
 intro H enc W base vs ds ps _ h _
 cases vs with
 | nil=>exact⟨(),trivial,rfl,by simp⟩
 | cons v vs=>cases ds<;>exact h.elim
theorem argsOpen_cons {γ:Type} {ts:List TypeId} {ivs:γ→List IV} {goodr:γ→Prop} {y:α→IV} (h:qak P t f good) (ha: ∀a,ArgIs P t (f a) (y a)) (hs:qeG P ts ivs goodr):
  qeG P (t::ts) (fun a:α × γ=>y a.1::ivs a.2) fun a=>good a.1∧goodr a.2:=by
 intro H enc W base vs ds ps hok ht hw
 match vs,ds,ht with
 | v::vs,d::ds,ht=>
   obtain⟨p,q,⟨fuel,h1⟩,h2, -⟩:=ht
   obtain⟨a,a1,a2⟩:=h enc W 0 _ _ fuel _ d p h1 fun n hn=>hw n (by simp [DataW.weightsEach,hn])
   obtain⟨b,b1,b2,b3⟩:=hs enc W base vs ds q (fun j t' v' ht' hv'=>hok (j+1) t' v' (by simpa using ht') (by simpa using hv')) h2 fun n hn=>hw n (by simp [DataW.weightsEach,hn])
   refine⟨(a,b),⟨a1,b1⟩,by simp [b2],fun i z u hz hu=>?_⟩
   cases i with
   | zero=>simp at hz hu;subst hz;subst hu;exact arg_rel (hok 0 t v rfl rfl) (ha a) a2
   | succ i=>exact b3 i z u (by simpa using hz) (by simpa using hu)
theorem qe7 {C:Checked} {os:Os} (started:os.Started) {f:FuncId} {fn:Func} {s:ChangeSpec} {tb:TypeId} {H:Type} {enc:TypeId × Value→H} (own:ownKnob C.prog.godebug=none) (noInit:C.prog.inits.idxOf? f=none) (hfn:C.prog.funcs[f]? =some fn)
  (witness: ∃(w:World) (tape:Tape) (i:Input),w.os=os∧(w.forCall tape i).Shaped C.prog∧i.vars= []∧Input.okWide C.prog (w.forCall tape i) .any w.heap.size f i∧
   s.pre6 enc C.prog fn [] false (w.forCall tape i).memory i.args∧({}:Assume).holds C.prog (lone (Frame.enter C.prog f i.args .normal) [] (w.forCall tape i)))
  (hl:laidOutB C.prog=true) (hres:fn.resultTypes= #[tb]) (htb:C.prog.underlying tb=some .bool)
  (hpar:fn.params.toList.all (fun t=>C.prog.readableRec t && decide (t < C.prog.types.size))=true) (hvars:s.vars= [])
  (hspec: ∀ds:List (DataW H),ds.length=fn.params.toList.length→s.fn H (ds++ [])= {results:= [.lit (.bool true)],args:=ds})
  {γ:Type} {ivs:γ→List IV} {good:γ→Prop} (ho:qeG C.prog fn.params.toList ivs good) (hp: ∀a,good a→PCall C.prog f (ivs a) [] (scb true)):
  ReturnsInHanded {} C os f .any (s.pre6 enc C.prog fn [] false) (s.post enc C.prog fn false true false false):=by
 refine returnsInHanded_of_change_sized own started noInit hfn witness ?_
 intro W base args ds gs before hval hW _ hsz _
 have hW':=hW
 obtain⟨p,q,hA,hV,rfl,_,_⟩:=hW
 rw [hvars] at hV
 obtain⟨rfl,rfl⟩:=trodVars_none hV
 have hvt:s.plain.varTypes C.prog= []:=by
  have:s.plain.vars=s.vars:=rfl
  simp [DataSpec.varTypes,this,hvars]
 rw [hvt,List.append_nil,List.append_nil] at hsz
 have hlen: ∀ {ts:List TypeId} {vs:List Value} {ds:List (DataW H)} {ps:List MemPlace},DataW.TrodAll enc C.prog W 0 (fun _=>true) true ts vs ds ps→ds.length=ts.length:=by
  intro ts
  induction ts with
  | nil=>intro vs ds ps h;cases vs<;>cases ds<;>first | rfl | exact h.elim
  | cons t ts ih=>
    intro vs ds ps h
    cases vs with
    | nil=>exact h.elim
    | cons v vs=>
      cases ds with
      | nil=>exact h.elim
      | cons d ds=>obtain⟨_,_,_,h2,_⟩:=h;simp [ih h2]
 obtain⟨a,a1,a2⟩:=ho enc W base args.toList ds p (fun j t v ht hv=>hval j t v (by simpa using ht) (by simpa using hv)) hA fun n hn=>by simpa using List.all_eq_true.1 hsz n hn
 exact qlp hl hres htb hpar hvars hW' (hspec ds (hlen hA)) a2 (hp a a1)
end Go.Idl
/-
 Calls in the walk: the callee and its arguments are worked out first, then a contract is offered.
-/
namespace Go.Idl
variable {P:Program} {h0:IH}
def tcn (P:Program):Nat→TypeId→List (Nat × Nat)
 | 0,_=> []
 | n+1,t=>match P.underlying t with
   | some (.slice e)=> [(0,(tsz P e).getD 0)]
   | some (.struct fs)=>fs.toList.flatMap fun f=>(tcn P n f.type).map fun p=>(p.1+f.offset,p.2)
   | some (.array m e)=>(List.range m).flatMap fun i=>(tcn P n e).map fun p=>(p.1+i * (tsz P e).getD 0,p.2)
   | _=> []
def tcs (P:Program) (t:TypeId):List (Nat × Nat):=tcn P 9 t
def qe4 (sz:Nat):IV→IV
 | .p (.sc (.slice none 0 0))=> .p (.imm sz [])
 | .p .emp=> .p (.imm sz [])
 | x=>x
def qhQ:Nat→Nat→List IV→List IV
 | _,_, []=> []
 | 0,sz,x::r=>qe4 sz x::r
 | o+1,sz,x::r=>x::qhQ o sz r
def qhR:List (Nat × Nat)→List IV→List IV
 | [],cs=>cs
 | (o,sz)::r,cs=>qhR r (qhQ o sz cs)
def ican (l:List (Nat × Nat)):IV→IV
 | .agg cs=> .agg (qhR l cs)
 | .p x=>match l with
   | []=> .p x
   | (_,sz)::_=>qe4 sz (.p x)
 | y=>y
def qbI (P:Program):List TypeId→List IV→List IV
 | [],xs=>xs
 | _::_, []=> []
 | t::ts,x::xs=>ican (tcs P t) x::qbI P ts xs
theorem qli (sz:Nat) (x:IV):wk x (qe4 sz x):=by
 unfold qe4
 split
 ·exact .inr ⟨.inr rfl,sz,rfl⟩
 ·exact .inr ⟨.inl rfl,sz,rfl⟩
 ·exact wk_refl x
theorem wkp_trans {a b c:PV} (h:wkp a b) (k:wkp b c):wkp a c:=by
 rcases h with rfl | ⟨h1,sz,rfl⟩
 ·exact k
 ·rcases k with rfl | ⟨k1,sz',rfl⟩
  ·exact .inr ⟨h1,sz,rfl⟩
  ·rcases k1 with k1 | k1<;>cases k1
theorem wk_trans (x:IV): ∀y z,wk x y→wk y z→wk x z:=by
 apply IV.rec (motive_1:=fun x=> ∀y z,wk x y→wk y z→wk x z) (motive_2:=fun l=> ∀y z,wks l y→wks y z→wks l z)
 ·intro a y z h k
  cases y<;>simp only [wk] at h
  cases z<;>simp only [wk] at k
  exact wkp_trans h k
 ·intro b g off len y z h k;simp only [wk] at h;subst h;exact k
 ·intro b g off len y z h k;simp only [wk] at h;subst h;exact k
 ·intro b y z h k;simp only [wk] at h;subst h;exact k
 ·intro fn f c _ _ y z h k;simp only [wk] at h;subst h;exact k
 ·intro cs ih y z h k
  cases y<;>simp only [wk] at h
  cases z<;>simp only [wk] at k
  exact ih _ _ h k
 ·intro cs ih y z h k
  cases y<;>simp only [wk] at h
  cases z<;>simp only [wk] at k
  exact ih _ _ h k
 ·intro y z h k;simp only [wk] at h;subst h;exact k
 ·intro y z h k;simp only [wks] at h;subst h;exact k
 ·intro x l i1 i2 y z h k
  cases y with
  | nil=>simp [wks] at h
  | cons y ys=>
    cases z with
    | nil=>simp [wks] at k
    | cons z zs=>exact⟨i1 _ _ h.1 k.1,i2 _ _ h.2 k.2⟩
theorem qjU: ∀ {l m n:List IV},wks l m→wks m n→wks l n
 | [],m,n,h,k=>by simp only [wks] at h;subst h;exact k
 | x::l, [],n,h,k=>by simp [wks] at h
 | x::l,y::m, [],h,k=>by simp [wks] at k
 | x::l,y::m,z::n,h,k=>⟨wk_trans x y z h.1 k.1,qjU h.2 k.2⟩
theorem qjm: ∀(o sz:Nat) (l:List IV),wks l (qhQ o sz l)
 | o,sz, []=>by cases o<;>exact wks_refl []
 | 0,sz,x::r=>⟨qli sz x,wks_refl r⟩
 | o+1,sz,x::r=>⟨wk_refl x,qjm o sz r⟩
theorem qlh: ∀(l:List (Nat × Nat)) (cs:List IV),wks cs (qhR l cs)
 | [],cs=>wks_refl cs
 | (o,sz)::r,cs=>qjU (qjm o sz cs) (qlh r _)
theorem qrL (l:List (Nat × Nat)) (x:IV):wk x (ican l x):=by
 unfold ican
 split
 ·exact qlh l _
 ·split
  ·exact wk_refl _
  ·exact qli _ _
 ·exact wk_refl _
theorem qcD: ∀(ts:List TypeId) (xs:List IV),wks xs (qbI P ts xs)
 | [],xs=>wks_refl xs
 | _::_, []=>wks_refl []
 | _::ts,x::xs=>⟨qrL _ x,qcD ts xs⟩
section
variable {sz:Nat} {n:Int} {k:IntKind}
@[go_sem] theorem icanP_nil:qe4 sz (.p (.sc (.slice none 0 0)))= .p (.imm sz []):=(rfl)
@[go_sem] theorem icanP_imm {s:Nat} {rows:List (List PV)}:qe4 sz (.p (.imm s rows))= .p (.imm s rows):=(rfl)
@[go_sem] theorem ican_ref {l:List (Nat × Nat)} {b g o r:Nat}:ican l (.ref b g o r)= .ref b g o r:=(rfl)
@[go_sem] theorem ican_ptr {l:List (Nat × Nat)} {b g o r:Nat}:ican l (.ptr b g o r)= .ptr b g o r:=(rfl)
@[go_sem] theorem ican_clo {l:List (Nat × Nat)} {f:Fn} {a c:List IV}:ican l (.clo f a c)= .clo f a c:=(rfl)
@[go_sem] theorem ican_nil {x:PV}:ican [] (.p x)= .p x:=(rfl)
@[go_sem] theorem ican_cons {l:List (Nat × Nat)} {o:Nat} {x:PV}:ican ((o,sz)::l) (.p x)=qe4 sz (.p x):=(rfl)
@[go_sem] theorem ican_agg {l:List (Nat × Nat)} {cs:List IV}:ican l (.agg cs)= .agg (qhR l cs):=(rfl)
end
attribute [go_sem] qhQ qhR qbI
def qdi (P:Program) (c:FuncId) (zs:List IV) (G:Nat→Option IBlk) (ok:Prop) (K:IV→List Nat→Prop):Prop:=
 ok→ ∃x R,PCall P c zs R x∧bel 0 x∧(∀p∈R,G p.1=some p.2)∧K x (R.map (·.1))
theorem qmZ {c:FuncId} {zs zs':List IV} {G:Nat→Option IBlk} {ok:Prop} {K:IV→List Nat→Prop} (h:zs=zs'):qdi P c zs G ok K=qdi P c zs' G ok K:=by rw [h]
attribute [congr] qmZ
theorem callA_of {c:FuncId} {zs:List IV} {G:Nat→Option IBlk} {ok:Prop} {K:IV→List Nat→Prop} {x:IV} (hp:PCall P c zs [] x) (hx:bel 0 x) (h:K x []):qdi P c zs G ok K:=
 fun _=>⟨x, [],hp,hx,by simp,h⟩
theorem qqu {G:Nat→Option IBlk} (x:IV): ∀y,frz G x=some y→(∀b∈refs x,∃blk,G b=some blk)∧ ∀G':Nat→Option IBlk,(∀b∈refs x,G' b=G b)→frz G' x=some y:=by
 apply IV.rec (motive_1:=fun x=> ∀y,frz G x=some y→(∀b∈refs x,∃blk,G b=some blk)∧ ∀G':Nat→Option IBlk,(∀b∈refs x,G' b=G b)→frz G' x=some y)
  (motive_2:=fun l=> ∀ys,frzs G l=some ys→(∀b∈qaK l,∃blk,G b=some blk)∧ ∀G':Nat→Option IBlk,(∀b∈qaK l,G' b=G b)→frzs G' l=some ys)
 ·intro x y h;exact⟨by simp [refs],fun G' _=>by simpa [frz] using h⟩
 ·intro b g off len y h
  simp only [frz] at h
  cases hb:G b with
  | none=>rw [hb] at h;cases h
  | some blk=>
    refine⟨by simp [refs,hb],fun G' hG=>?_⟩
    simp only [frz,hG b (by simp [refs]),hb]
    rw [hb] at h;exact h
 ·intro b g r j y h
  simp only [frz] at h
  cases hb:G b with
  | none=>rw [hb] at h;cases h
  | some blk=>
    refine⟨by simp [refs,hb],fun G' hG=>?_⟩
    simp only [frz,hG b (by simp [refs]),hb]
    rw [hb] at h;exact h
 ·intro b y h;simp [frz] at h
 ·intro fn f c i1 i2 y h
  simp only [frz] at h
  split at h
  ·rename_i g d h1 h2
   cases h
   obtain⟨a1,a2⟩:=i1 g h1
   obtain⟨b1,b2⟩:=i2 d h2
   refine⟨fun b hb=>?_,fun G' hG=>?_⟩
   ·simp only [refs,List.mem_append] at hb
    exact hb.elim (a1 b) (b1 b)
   ·simp only [frz,a2 G' fun b hb=>hG b (by simp [refs,hb]),b2 G' fun b hb=>hG b (by simp [refs,hb])]
  ·cases h
 ·intro cs ih y h
  simp only [frz,Option.map_eq_some_iff] at h
  obtain⟨ys,hy,rfl⟩:=h
  obtain⟨h1,h2⟩:=ih ys hy
  exact⟨by simpa [refs] using h1,fun G' hG=>by simp only [frz,h2 G' (by simpa [refs] using hG),Option.map_some]⟩
 ·intro cs ih y h
  simp only [frz,Option.map_eq_some_iff] at h
  obtain⟨ys,hy,rfl⟩:=h
  obtain⟨h1,h2⟩:=ih ys hy
  exact⟨by simpa [refs] using h1,fun G' hG=>by simp only [frz,h2 G' (by simpa [refs] using hG),Option.map_some]⟩
 ·intro y h;simp [frz] at h
 ·intro ys h;exact⟨by simp [qaK],fun G' _=>by simpa [frzs] using h⟩
 ·intro x l i1 i2 ys h
  simp only [frzs] at h
  split at h
  ·rename_i y ys' h1 h2
   cases h
   obtain⟨a1,a2⟩:=i1 y h1
   obtain⟨b1,b2⟩:=i2 ys' h2
   refine⟨fun b hb=>?_,fun G' hG=>?_⟩
   ·simp only [qaK,List.mem_append] at hb
    exact hb.elim (a1 b) (b1 b)
   ·simp only [frzs,a2 G' fun b hb=>hG b (by simp [qaK,hb]),b2 G' fun b hb=>hG b (by simp [qaK,hb])]
  ·cases h
theorem frzs_refs {G:Nat→Option IBlk} {l ys:List IV} (h:frzs G l=some ys):(∀b∈qaK l,∃blk,G b=some blk)∧ ∀G':Nat→Option IBlk,(∀b∈qaK l,G' b=G b)→frzs G' l=some ys:=by
 have:=qqu (G:=G) (.agg l) (.agg ys) (by simp [frz,h])
 refine⟨fun b hb=>this.1 b (by simpa [refs] using hb),fun G' hG=>?_⟩
 have:=this.2 G' fun b hb=>hG b (by simpa [refs] using hb)
 simpa [frz] using this
theorem qee {G:Nat→Option IBlk} {b:Nat}: ∀ {l:List Nat},b∈l→look (seen G l) b=G b
 | [],h=>by cases h
 | c::r,h=>by
   unfold seen
   by_cases e:c=b
   ·subst e
    cases hc:G c with
    | some blk=>simp [look]
    | none=>
      by_cases hr:c∈r
      ·simpa [hc] using qee (G:=G) hr
      ·cases hl:look (seen G r) c with
       | none=>rfl
       | some blk=>have:=seen_spec _ (qaD hl);rw [hc] at this;cases this
   ·have hr:b∈r:=by
     rcases List.mem_cons.1 h with h | h
     ·exact absurd h.symm e
     ·exact h
    cases hc:G c with
    | some blk=>simp only [look,if_neg e];exact qee hr
    | none=>exact qee hr
theorem qjK {G:Nat→Option IBlk}: ∀ {l:List Nat},(∀b∈l,∃blk,G b=some blk)→(seen G l).map (·.1)=l
 | [],_=>rfl
 | c::r,h=>by
   obtain⟨blk,hb⟩:=h c (List.mem_cons_self ..)
   simp only [seen,hb,List.map_cons,qjK fun b hb=>h b (List.mem_cons_of_mem _ hb)]
def qj8 (P:Program) (c:FuncId) (zs:List IV) (K:IV→Prop):Prop:= ∃x,PCall P c zs [] x∧qb1 x=true∧K x
theorem qm3 {c:FuncId} {zs zs':List IV} {K:IV→Prop} (h:zs=zs'):qj8 P c zs K=qj8 P c zs' K:=by rw [h]
attribute [congr] qm3
theorem qaG {c:FuncId} {zs:List IV} {G:Nat→Option IBlk} {ok:Prop} {K:IV→List Nat→Prop}
  (h:qaq (frzs G zs) (fun zs'=>qj8 P c zs' fun x=>K x (qaK zs)) False):qdi P c zs G ok K:=by
 intro _
 cases hz:frzs G zs with
 | none=>rw [hz] at h;exact h.elim
 | some zs'=>
   rw [hz,qaj] at h
   obtain⟨x,h1,h2,h3⟩:=h
   obtain⟨g1,g2⟩:=frzs_refs hz
   refine⟨x,seen G (qaK zs),qic (g2 _ fun b hb=>qee hb) h2 h1,qp0 0 x h2,seen_spec,?_⟩
   rw [qjK g1]
   exact h3
theorem qaX {c:FuncId} {zs:List IV} {K:IV→Prop} {x:IV} (hp:PCall P c zs [] x) (hx:qb1 x=true) (h:K x):qj8 P c zs K:=⟨x,hp,hx,h⟩
section
variable {Q:Exit→qaa→Prop} {k:List It} {all:Array Oper} {r:List Oper} {dst:Option Tmp} {ty:TypeId} {pos:String} {aft:Array Edge} {N:Nat} {s:List (Nat × IV)} {d:List IDef} {nx:Nat} {l:List (Nat × IBlk)}
 {g:Option (Nat × Bool)} {f:Operand} {args:List Operand} {ts:List TypeId} {K:qaa→List FP→Prop} {acc:List FP}
theorem qrr (n:Nat)
  (h:qaq (qas (ev s) f args) (fun q=>(qai all s ⟨dst, .call {callee:= .value f,args:=⟨args⟩,argTypes:=⟨ts⟩},ty,pos,aft,g⟩=some true∧fnOk P q.1=true∧dOk N dst=true)∧
   qdi P q.1 (qbI P ts q.2) (look (l++h0.m)) True fun x _=>vc P h0 Q n (.ops all r::k) ⟨N,putS dst x s,d,nx,l⟩) False):
  IRun P h0 (.ops all (⟨dst, .call {callee:= .value f,args:=⟨args⟩,argTypes:=⟨ts⟩},ty,pos,aft,g⟩::r)::k) ⟨N,s,d,nx,l⟩ Q:=by
 cases hc:qas (ev s) f args with
 | none=>rw [hc] at h;exact h.elim
 | some q=>
   rw [hc,qaj] at h
   obtain⟨⟨h1,h2,h3⟩,h4⟩:=h
   obtain⟨x,R,p1,p2,p3,p4⟩:=h4 trivial
   exact ql5 n hc (p1.weak (qcD ts q.2)) p3 h1 h2 h3 p4
theorem qqi
  (h:qaq (qas (ev s) f args) (fun q=>(qai all s ⟨dst, .call {callee:= .value f,args:=⟨args⟩,argTypes:=⟨ts⟩},ty,pos,aft,g⟩=some true∧fnOk P q.1=true∧dOk N dst=true)∧
   qdi P q.1 (qbI P ts q.2) (look (l++h0.m)) True fun x R=>dvc P h0 all K r ⟨N,putS dst x s,d,nx,l⟩ (acc++ [(R, [])])) False):
  DRun P h0 all (⟨dst, .call {callee:= .value f,args:=⟨args⟩,argTypes:=⟨ts⟩},ty,pos,aft,g⟩::r) ⟨N,s,d,nx,l⟩ acc K:=by
 cases hc:qas (ev s) f args with
 | none=>rw [hc] at h;exact h.elim
 | some q=>
   rw [hc,qaj] at h
   obtain⟨⟨h1,h2,h3⟩,h4⟩:=h
   obtain⟨x,R,p1,p2,p3,p4⟩:=h4 trivial
   exact qis hc (p1.weak (qcD ts q.2)) p3 h1 h2 h3 p2 p4
end
end Go.Idl
/-
 Calls that give memory of their own: one new block, that the caller owns from then on.
-/
namespace Go.Idl
variable {P:Program} {h0:IH}
mutual
def rn (b:Nat):IV→IV
 | .ref _ g o l=> .ref b g o l
 | .ptr _ g r j=> .ptr b g r j
 | .mp _=> .mp b
 | .clo f x c=> .clo f (rns b x) (rns b c)
 | .agg cs=> .agg (rns b cs)
 | .tup cs=> .tup (rns b cs)
 | .p x=> .p x
 | .dead=> .dead
def rns (b:Nat):List IV→List IV
 | []=> []
 | x::r=>rn b x::rns b r
end
mutual
def only(b:Nat):IV→Bool
 | .ref c _ _ _=>c==b
 | .agg cs=>qkd b cs
 | .tup cs=>qkd b cs
 | .p _=>true
 | .dead=>true
 | _=>false
def qkd (b:Nat):List IV→Bool
 | []=>true
 | x::r=>only b x && qkd b r
end
def PNew (P:Program) (f:FuncId) (args:List IV) (x:IV) (blk:IBlk):Prop:=
 ∀(nx:Nat) (m:List (Nat × IBlk)) (M:Mem) (vs:List Value),HRel nx m M→vs.length=args.length→(∀(i:Nat) (y:IV) (v:Value),args[i]? =some y→vs[i]? =some v→VRel M y v)→
  ∀b,¬M.H.A b→Calls P f ⟨vs⟩ M.w fun e w'=> ∃M',M'.w=w'∧qae M M'∧MRel M'∧M'.H=M.H.put b blk∧ ∃v,e= .returned v∧VRel M' (rn b x) v
section
variable {fn:Func} {x0:IV} {blk0:IBlk} {N:Nat} {s:List (Nat × IV)} {d:List IDef} {nx:Nat} {l:List (Nat × IBlk)}
end
attribute [go_sem] rn rns only qkd
def callN (P:Program) (c:FuncId) (zs:List IV) (K:IV→IBlk→Prop):Prop:= ∃x blk,PNew P c zs x blk∧K x blk
theorem qm2 {c:FuncId} {zs zs':List IV} {K:IV→IBlk→Prop} (h:zs=zs'):callN P c zs K=callN P c zs' K:=by rw [h]
attribute [congr] qm2
section
variable {Q:Exit→qaa→Prop} {k:List It} {all:Array Oper} {r:List Oper} {dst:Option Tmp} {ty:TypeId} {pos:String} {aft:Array Edge} {N:Nat} {s:List (Nat × IV)} {d:List IDef} {nx:Nat} {l:List (Nat × IBlk)}
 {g:Option (Nat × Bool)} {f:Operand} {args:List Operand} {ts:List TypeId} {K:qaa→List FP→Prop} {acc:List FP}
end
end Go.Idl
/-
 Loops between whose rounds owned slices may be given up: told by what lies in them.
-/
namespace Go.Idl
variable {P:Program} {h0:IH}
mutual
def fw (G:Nat→Option IBlk) (ids:List Nat):IV→IV→Prop
 | .ref b g off len,y=>match y with
   | .p q=>b∈ids∧qaq (frz G (.ref b g off len)) (fun z=>wk z (.p q)) False
   | y=> .ref b g off len=y
 | .agg xs,y=>match y with
   | .agg ys=>fws G ids xs ys
   | _=>False
 | .tup xs,y=>match y with
   | .tup ys=>fws G ids xs ys
   | _=>False
 | .p a,y=>wk (.p a) y
 | .ptr b g o l,y=> .ptr b g o l=y
 | .mp b,y=> .mp b=y
 | .clo f x c,y=> .clo f x c=y
 | .dead,y=> .dead=y
def fws (G:Nat→Option IBlk) (ids:List Nat):List IV→List IV→Prop
 | [],y=>y= []
 | x::xs,y=>match y with
   | y::ys=>fw G ids x y∧fws G ids xs ys
   | []=>False
end
theorem qge {G:Nat→Option IBlk} {ids:List Nat}: ∀ {l m:List IV},fws G ids l m→m.length=l.length∧ ∀(i:Nat) (x y:IV),l[i]? =some x→m[i]? =some y→fw G ids x y
 | [],m,h=>by simp only [fws] at h;subst h;simp
 | x::l, [],h=>by simp [fws] at h
 | x::l,y::m,h=>by
   obtain⟨h1,h2⟩:=qge h.2
   refine⟨by simp [h1],fun i a b ha hb=>?_⟩
   cases i with
   | zero=>simp at ha hb;subst ha;subst hb;exact h.1
   | succ i=>exact h2 i a b (by simpa using ha) (by simpa using hb)
theorem imm_wk {sz:Nat} {rows:List (List PV)} {q:PV} (h:wkp (.imm sz rows) q):q= .imm sz rows:=by
 rcases h with h | ⟨h,_⟩
 ·exact h.symm
 ·rcases h with h | h<;>cases h
theorem fw_fz {G:Nat→Option IBlk} {ids:List Nat} (x:IV): ∀y,fw G ids x y→Fz G ids x y:=by
 apply IV.rec (motive_1:=fun x=> ∀y,fw G ids x y→Fz G ids x y) (motive_2:=fun l=> ∀x∈l,∀y,fw G ids x y→Fz G ids x y)
 ·intro a y h;exact wk_fz _ y h
 ·intro b g off len y h
  cases y with
  | p q=>
    obtain⟨h1,h2⟩:=h
    cases hz:frz G (.ref b g off len) with
    | none=>rw [hz] at h2;exact h2.elim
    | some z=>
      rw [hz,qaj] at h2
      have h3:=(qfF (.ref b g off len) z ids hz (by simp [refs,h1])).1
      simp only [frz] at hz
      split at hz
      ·split at hz
       ·simp only [Option.map_eq_some_iff] at hz
        obtain⟨ps,_,rfl⟩:=hz
        have:=imm_wk h2
        subst this
        exact h3
       ·cases hz
      ·cases hz
  | _=>simp only [fw] at h;(cases h;try exact .refl _)
 ·intro b g off len y h;simp only [fw] at h;subst h;exact .refl _
 ·intro b y h;simp only [fw] at h;subst h;exact .refl _
 ·intro fn f c _ _ y h;simp only [fw] at h;subst h;exact .refl _
 ·intro cs ih y h
  cases y<;>simp only [fw] at h
  obtain⟨h1,h2⟩:=qge h
  exact .agg _ _ h1 fun i x y hx hy=>ih x (List.mem_of_getElem? hx) y (h2 i x y hx hy)
 ·intro cs ih y h
  cases y<;>simp only [fw] at h
  obtain⟨h1,h2⟩:=qge h
  exact .tup _ _ h1 fun i x y hx hy=>ih x (List.mem_of_getElem? hx) y (h2 i x y hx hy)
 ·intro y h;simp only [fw] at h;subst h;exact .refl _
 ·intro x hx;cases hx
 ·intro x l i1 i2 z hz
  rcases List.mem_cons.1 hz with rfl | hz
  ·exact i1
  ·exact i2 z hz
def fwRs (G:Nat→Option IBlk) (ids:List Nat) (a b:List (List IV)):Prop:=
 a=b∨b.length=a.length∧ ∀(i:Nat) (r r':List IV),a[i]? =some r→b[i]? =some r'→fws G ids r r'
def fwB (G:Nat→Option IBlk) (ids:List Nat):IBlk→IBlk→Prop
 | .arr sz g rows,y=>match y with
   | .arr sz' g' rows'=>sz=sz'∧g=g'∧fwRs G ids rows rows'
   | _=>False
 | .mp es,y=> .mp es=y
 | .ob k vs,y=> .ob k vs=y
theorem fwB_fz {G:Nat→Option IBlk} {ids:List Nat} {x y:IBlk} (h:fwB G ids x y):FzB G ids x y:=by
 cases x with
 | arr sz g rows=>
   cases y with
   | mp es=>exact h.elim
   | ob k vs=>exact h.elim
   | arr sz' g' rows'=>
     obtain⟨rfl,rfl,h⟩:=h
     rcases h with rfl | ⟨h1,h2⟩
     ·exact .refl _
     ·refine⟨rfl,rfl,h1,fun i row row' hi hi'=>?_⟩
      obtain⟨e1,e2⟩:=qge (h2 i row row' hi hi')
      exact⟨e1,fun j x y hx hy=>fw_fz x y (e2 j x y hx hy)⟩
 | mp es=>simp only [fwB] at h;subst h;exact .refl _
 | ob k vs=>simp only [fwB] at h;subst h;exact .refl _
section
variable {G:Nat→Option IBlk} {ids:List Nat} {a:PV} {x y:IV} {xs ys:List IV} {sz sz' g g':Nat} {rs rs':List (List IV)}
@[go_sem] theorem fw_p:fw G ids (.p a) y=wk (.p a) y:=by simp only [fw]
@[go_sem] theorem fw_ref {b g o l b' g' o' l':Nat}:fw G ids (.ref b g o l) (.ref b' g' o' l')=(b=b'∧g=g'∧o=o'∧l=l'):=by simp only [fw,IV.ref.injEq]
@[go_sem] theorem fw_frz {b g o l:Nat}:fw G ids (.ref b g o l) (.p a)=(b∈ids∧qaq (frz G (.ref b g o l)) (fun z=>wk z (.p a)) False):=by simp only [fw]
@[go_sem] theorem fw_ptr {b g o l b' g' o' l':Nat}:fw G ids (.ptr b g o l) (.ptr b' g' o' l')=(b=b'∧g=g'∧o=o'∧l=l'):=by simp only [fw,IV.ptr.injEq]
@[go_sem] theorem fws_nil:fws G ids [] []=True:=by simp only [fws]
@[go_sem] theorem fws_cons:fws G ids (x::xs) (y::ys)=(fw G ids x y∧fws G ids xs ys):=by simp only [fws]
@[go_sem] theorem fwRs_self:fwRs G ids rs rs=True:=eq_true (.inl rfl)
@[go_sem] theorem qpt {r r':List IV}:fwRs G ids (r::rs) (r'::rs')=(fws G ids r r'∧fwRs G ids rs rs'):=by
  have self: ∀z:List IV,wks z z:=wks_refl
  have wf: ∀(x:IV),fw G ids x x:=by
   intro x
   apply IV.rec (motive_1:=fun x=>fw G ids x x) (motive_2:=fun l=>fws G ids l l)
   ·intro a;exact wk_refl _
   ·intro b g o l;simp only [fw]
   ·intro b g o l;simp only [fw]
   ·intro b;simp only [fw]
   ·intro f a c _ _;simp only [fw]
   ·intro cs h;simp only [fw];exact h
   ·intro cs h;simp only [fw];exact h
   ·simp only [fw]
   ·simp only [fws]
   ·intro x l h1 h2;exact⟨h1,h2⟩
  have wfs: ∀z:List IV,fws G ids z z:=by
   intro z
   induction z with
   | nil=>simp only [fws]
   | cons x l ih=>exact⟨wf x,ih⟩
  apply propext
  constructor
  ·rintro(h | ⟨h1,h2⟩)
   ·cases h;exact⟨wfs _, .inl rfl⟩
   ·exact⟨h2 0 r r' rfl rfl, .inr ⟨by simpa using h1,fun i a b ha hb=>h2 (i+1) a b (by simpa using ha) (by simpa using hb)⟩⟩
  ·rintro⟨h1,h2⟩
   refine .inr ?_
   rcases h2 with rfl | ⟨h2,h3⟩
   ·refine⟨rfl,fun i a b ha hb=>?_⟩
    cases i with
    | zero=>simp at ha hb;subst ha;subst hb;exact h1
    | succ i=>simp at ha hb;rw [ha] at hb;cases hb;exact wfs _
   ·refine⟨by simp [h2],fun i a b ha hb=>?_⟩
    cases i with
    | zero=>simp at ha hb;subst ha;subst hb;exact h1
    | succ i=>exact h3 i a b (by simpa using ha) (by simpa using hb)
theorem qnw (x:IV):fw G ids x x:=by
 apply IV.rec (motive_1:=fun x=>fw G ids x x) (motive_2:=fun l=>fws G ids l l)
 ·intro a;exact wk_refl _
 ·intro b g o l;simp only [fw]
 ·intro b g o l;simp only [fw]
 ·intro b;simp only [fw]
 ·intro f a c _ _;simp only [fw]
 ·intro cs h;simp only [fw];exact h
 ·intro cs h;simp only [fw];exact h
 ·simp only [fw]
 ·simp only [fws]
 ·intro x l h1 h2;exact⟨h1,h2⟩
theorem fws_self: ∀z:List IV,fws G ids z z
 | []=>by simp only [fws]
 | x::l=>⟨qnw x,fws_self l⟩
@[go_sem] theorem fwRs_app {us:List (List IV)}:fwRs G ids (us++rs) (us++rs')=fwRs G ids rs rs':=by
  induction us with
  | nil=>rfl
  | cons u us ih=>
    rw [List.cons_append,List.cons_append,qpt,ih]
    exact propext ⟨fun h=>h.2,fun h=>⟨fws_self u,h⟩⟩
@[go_sem] theorem fwB_arr:fwB G ids (.arr sz g rs) (.arr sz' g' rs')=(sz=sz'∧g=g'∧fwRs G ids rs rs'):=by simp only [fwB]
end
def lk (l:List (Nat × IBlk)):Nat→Option IBlk:=look l
@[go_sem] theorem lk_app {l:List (Nat × IBlk)} {i:Nat}:lk l i=look l i:=(rfl)
def fslotsIn (S:qaa) (m:List (Nat × IBlk)) (ids:List Nat) (nx:Nat):List (Nat × IV)→Prop
 | []=>True
 | (t,y)::r=>qaq (look S.s t) (fun z=>fw (lk (S.l++m)) ids z y) False∧(nx=S.nx∨bel nx y)∧fslotsIn S m ids nx r
def fblksIn (S:qaa) (m:List (Nat × IBlk)) (ids:List Nat) (nx:Nat):List (Nat × IBlk)→Prop
 | []=>True
 | (b,blk)::r=>qaq (look (S.l++m) b) (fun z=>fwB (lk (S.l++m)) ids z blk) False∧(nx=S.nx∨b < nx∧qbk nx blk)∧fblksIn S m ids nx r
def gone (nx0:Nat) (l':List (Nat × IBlk)):List Nat→Prop
 | []=>True
 | b::r=>(nx0≤b∧(l'.all fun p=>p.1 != b)=true)∧gone nx0 l' r
theorem qfG {S:qaa} {m:List (Nat × IBlk)} {ids:List Nat} {nx:Nat}: ∀ {s:List (Nat × IV)},fslotsIn S m ids nx s→ ∀p∈s,(∃z,look S.s p.1=some z∧fw (look (S.l++m)) ids z p.2)∧(nx=S.nx∨bel nx p.2)
 | [],_,p,h=>by cases h
 | (t,y)::r,h,p,hp=>by
   rcases List.mem_cons.1 hp with rfl | hp
   ·refine⟨?_,h.2.1⟩
    have h1:=h.1
    cases hl:look S.s t with
    | none=>rw [hl] at h1;exact h1.elim
    | some z=>rw [hl] at h1;exact⟨z,rfl,h1⟩
   ·exact qfG h.2.2 p hp
theorem qgD {S:qaa} {m:List (Nat × IBlk)} {ids:List Nat} {nx:Nat}: ∀ {s:List (Nat × IBlk)},fblksIn S m ids nx s→ ∀p∈s,(∃z,look (S.l++m) p.1=some z∧fwB (look (S.l++m)) ids z p.2)∧(nx=S.nx∨p.1 < nx∧qbk nx p.2)
 | [],_,p,h=>by cases h
 | (b,blk)::r,h,p,hp=>by
   rcases List.mem_cons.1 hp with rfl | hp
   ·refine⟨?_,h.2.1⟩
    have h1:=h.1
    cases hl:look (S.l++m) b with
    | none=>rw [hl] at h1;exact h1.elim
    | some z=>rw [hl] at h1;exact⟨z,rfl,h1⟩
   ·exact qgD h.2.2 p hp
theorem qlg {nx0:Nat} {l':List (Nat × IBlk)}: ∀ {l:List Nat},gone nx0 l' l→ ∀b∈l,nx0≤b∧ ∀p∈l',p.1≠b
 | [],_,b,h=>by cases h
 | c::r,h,b,hb=>by
   rcases List.mem_cons.1 hb with rfl | hb
   ·exact⟨h.1.1,fun p hp=>by have:=List.all_eq_true.1 h.1.2 p hp;simpa using this⟩
   ·exact qlg h.2 b hb
structure FCut (h0:IH) (ids:List Nat) (S S':qaa):Prop where
 n:S'.n=S.n
 d:S'.d=S.d
 dbel:S.d= []∨S'.nx=S.nx
 low:h0.nx≤S'.nx
 top:S'.nx≤S.nx
 slots:fslotsIn S h0.m ids S'.nx S'.s
 blks:fblksIn S h0.m ids S'.nx S'.l
 others:qgp h0.nx S'.l S.l
 gone:gone h0.nx S'.l ids
theorem FCut.sub {ids:List Nat} {S S':qaa} (h:FCut h0 ids S S'):Sub h0 ids S S':=by
 refine⟨h.n,h.d,h.dbel,h.low,h.top,fun p hp=>?_,fun p hp=>?_,oldIn_mem h.others,qlg h.gone⟩
 ·obtain⟨⟨z,h1,h3⟩,h2⟩:=qfG h.slots p hp
  exact⟨z,h1,fw_fz _ _ h3,h2⟩
 ·obtain⟨⟨z,h1,h3⟩,h2⟩:=qgD h.blks p hp
  exact⟨z,h1,fwB_fz h3,h2⟩
theorem qac {ι:Type} {c:Code} {k:List It} {S:qaa} {Q:Exit→qaa→Prop} (n m:Nat) (I:ι→Prop) (St:ι→qaa) (μ:ι→Nat) (i0:ι) (ids0:List Nat) (hI:I i0) (hi:FCut h0 ids0 S (St i0))
  (hr: ∀i,I i→vc P h0 (qdC P h0 Q n k fun S'=> ∃i' ids,I i'∧μ i' < μ i∧FCut h0 ids S' (St i')) m [.code c] (St i)):IRun P h0 (.code (.loop c)::k) S Q:=by
 refine qjr (ι:= {i // I i}) (fun i=>St i.1) (fun i=>μ i.1) ⟨i0,hI⟩ ⟨ids0,hi.sub⟩ fun⟨i,hIi⟩=>?_
 have:=vc_sound _ _ _ _ (hr i hIi)
 refine qbd.mono this fun e S' h=>?_
 have h:qdC P h0 Q n k (fun S'=> ∃i' ids,I i'∧μ i' < μ i∧FCut h0 ids S' (St i')) e S':=h
 cases e with
 | normal=>obtain⟨i',ids,h1,h2,h3⟩:=h;exact⟨⟨i',h1⟩,ids,h2,h3.sub⟩
 | exit id=>
   simp only [qdC,qcI] at h
   cases hb:qbP id k with
   | none=>rw [hb,qcx] at h;exact(show after P h0 Q k (.exit id) S' from after_exit_none hb h)
   | some k'=>rw [hb,qaj] at h;exact(show after P h0 Q k (.exit id) S' from after_exit hb (vc_sound Q n _ _ h))
 | ret=>exact(show after P h0 Q k .ret S' from after_ret h)
 | panic ch=>exact(show after P h0 Q k (.panic ch) S' from after_panic h)
 | goto l=>exact h
 | outgrown=>exact h
theorem qbN (n:Nat) {k:List It} {S:qaa} {Q:Exit→qaa→Prop} (ids:List Nat) (S':qaa) (hk:Live k) (h:FCut h0 ids S S') (hv:vc P h0 Q n k S'):IRun P h0 k S Q:=by
 refine qfM h.sub ?_ (vc_sound Q n _ _ hv)
 cases k with
 | nil=>exact hk.elim
 | cons x k=>cases x<;>first | exact hk.elim | trivial
attribute [go_sem] fslotsIn fblksIn gone
end Go.Idl
namespace Go.Idl
variable {P:Program} {h0:IH}
def pickS:List Nat→List (Nat × IV)→List (Nat × IV)
 | [],_=> []
 | t::ts,s=>match look s t with
   | some x=>(t,x)::pickS ts s
   | none=>pickS ts s
theorem pickS_look {s:List (Nat × IV)}: ∀ {T:List Nat} {p:Nat × IV},p∈pickS T s→look s p.1=some p.2
 | [],p,h=>by cases h
 | t::ts,p,h=>by
   unfold pickS at h
   split at h
   ·rename_i x hx
    rcases List.mem_cons.1 h with rfl | h
    ·exact hx
    ·exact pickS_look h
   ·exact pickS_look h
theorem walk_trim (T:List Nat) {k:List It} {N:Nat} {s:List (Nat × IV)} {d:List IDef} {nx:Nat} {l:List (Nat × IBlk)} {Q:Exit→qaa→Prop} (hk:Live k) (hn:h0.nx≤nx)
  (h:IRun P h0 k ⟨N,pickS T s,d,nx,ddp l⟩ Q):IRun P h0 k ⟨N,s,d,nx,l⟩ Q:=by
 refine qfM (ids:= []) (S':=⟨N,pickS T s,d,nx,ddp l⟩) ⟨rfl,rfl, .inr rfl,hn,Nat.le_refl _,fun p hp=>⟨p.2,pickS_look hp, .refl _, .inl rfl⟩,fun p hp=>?_,fun p hp=> .inr (qdT hp),by simp⟩ ?_ h
 ·have:=qdU hp
  exact⟨p.2,by rw [qad,this], .refl _, .inl rfl⟩
 ·cases k with
  | nil=>exact hk.elim
  | cons x k=>cases x<;>first | exact hk.elim | trivial
attribute [go_sem] pickS ddp
end Go.Idl
/-
 The walk's plain rules, under one name.
-/
namespace Go.Idl
@[go_sem] theorem ir_setI {l:List Int} {i:Nat} {n:Int}:(ir eI l).set i [.p (.sc (.int .i64 n))]=ir eI (l.set i n):=qlk (f:=eI) (a:=n)
@[go_sem] theorem ir_setB {l:List Bool} {i:Nat} {n:Bool}:(ir eB l).set i [.p (.sc (.bool n))]=ir eB (l.set i n):=qlk (f:=eB) (a:=n)
def qbm (n:Nat):List (List IV)→Prop
 | []=>True
 | r::rs=>bels n r∧qbm n rs
theorem qb8 (n:Nat): ∀rows:List (List IV),qbm n rows↔ ∀row∈rows,bels n row
 | []=>by simp [qbm]
 | r::rs=>by simp [qbm,qb8 n rs]
@[go_sem] theorem qsA {n sz g:Nat} {rows:List (List IV)}:qbk n (.arr sz g rows)=qbm n rows:=propext (qb8 n rows).symm
theorem qhC (n:Nat): ∀l:List PV,bels n (l.map .p)
 | []=>trivial
 | _::r=>⟨trivial,qhC n r⟩
@[go_sem] theorem qik {n:Nat} {α:Type} {f:α→List PV} {l:List α}:qbm n (ir f l)=True:=
  eq_true ((qb8 n _).2 fun row h=>by simp only [ir,List.mem_map] at h;obtain⟨a,_,rfl⟩:=h;exact qhC n _)
@[go_sem] theorem qnl {n:Nat} {rs us:List (List IV)}:qbm n (rs++us)=(qbm n rs∧qbm n us):=propext (by simp only [qb8,List.mem_append];exact⟨fun h=>⟨fun r hr=>h r (.inl hr),fun r hr=>h r (.inr hr)⟩,fun h r hr=>hr.elim (h.1 r) (h.2 r)⟩)
@[go_sem] theorem qsw {n:Nat}:qbm n []=True:=(rfl)
@[go_sem] theorem qsn {n:Nat} {r:List IV} {rs:List (List IV)}:qbm n (r::rs)=(bels n r∧qbm n rs):=(rfl)
attribute [go_sem] Nat.sub_zero List.filter_cons List.filter_nil bne_self_eq_false Int.add_zero Int.zero_add Int.sub_zero List.mem_cons forall_eq forall_eq_or_imp not_false_eq_true false_or or_false Value.int.injEq Value.bool.injEq Value.string.injEq Value.float.injEq IV.p.injEq PV.sc.injEq PV.imm.injEq IBlk.arr.injEq Int.toNat_natCast Int.natCast_nonneg Int.natCast_add Int.cast_ofNat_Int Option.map_some Option.map_none Option.bind_some Option.bind_none Option.isSome_none Option.isSome_some List.map_cons List.map_nil List.length_cons List.take_length List.drop_length List.length_append List.length_take List.length_drop List.length_nil List.all_cons List.all_nil List.getElem?_cons_zero List.getElem?_cons_succ List.getElem?_nil List.drop_zero List.drop_succ_cons List.drop_nil List.take_zero List.take_succ_cons List.take_nil List.set_cons_zero List.set_cons_succ List.head?_cons List.cons_append List.nil_append List.append_nil List.reverse_cons List.reverse_nil List.flatten_cons List.flatten_nil List.replicate_zero List.drop_replicate Nat.sub_self List.replicate_succ List.range_zero List.getElem?_toArray List.toList_toArray Nat.zero_add Nat.add_zero Nat.zero_mul Nat.mul_zero Nat.mul_one Nat.one_mul Nat.add_eq_right Nat.add_eq_left Nat.left_eq_add Nat.right_eq_add Nat.add_left_cancel_iff Nat.add_right_cancel_iff Value.oneCell' Bool.not_not Bool.and_true Bool.true_and Bool.not_true Bool.not_false Bool.false_eq_true Bool.and_false Bool.false_and and_self and_true true_and true_or or_true ne_eq not_true_eq_false not_false_eq_true if_true if_false decide_true decide_false beq_self_eq_true Nat.le_refl Nat.le_add_right Nat.add_le_add_iff_left Nat.add_lt_add_iff_left Nat.lt_add_one Nat.zero_le Nat.min_self Nat.add_assoc implies_true List.length_replicate qb1 qb1.goS List.not_mem_nil false_implies true_implies
/-! ### sums, products, quotients of numbers: never computed by the way -/
def fbop (P:Program) (G:Nat→Option IBlk) (op:BinOp) (t:TypeId):Option IV→Option IV→Option FR
 | some zx,some zy=>orE (fbin P op t zx zy) (orE (qdW op zx zy) (orE (feqv P op t zx zy) (fslnil P G op t zx zy)))
 | _,_=>none
@[go_sem ↓] theorem fop_bin {P:Program} {ρ:Operand→Option IV} {G:Nat→Option IBlk} {nx:Nat} {all:Array Oper} {dst:Option Tmp} {op:BinOp} {t t':TypeId} {x y:Operand}:
  fop P ρ G nx all dst (.binOp op t x y t')=fbop P G op t (ρ x) (ρ y):=by
  unfold fbop
  simp only [fop]
  cases ρ x<;>cases ρ y<;>rfl
@[go_sem low] theorem fbop_some {P:Program} {G:Nat→Option IBlk} {op:BinOp} {t:TypeId} {zx zy:IV}:fbop P G op t (some zx) (some zy)=orE (fbin P op t zx zy) (orE (qdW op zx zy) (orE (feqv P op t zx zy) (fslnil P G op t zx zy))):=(rfl)
variable {P:Program}
def PEff (P:Program) (f:FuncId) (args:List IV) (R:List (Nat × IBlk)) (x:IV) (W:List (Nat × IBlk)):Prop:=
 ∀h:IH,(∀p∈R,look h.m p.1=some p.2)→qa5 P f args h fun r nx l=>r= .ret x∧nx=h.nx∧l=W
def qiK (G:Nat→Option IBlk):List (Nat × IBlk)→Prop
 | []=>True
 | p::r=>G p.1=some p.2∧qiK G r
def qdo (n:Nat):List (Nat × IBlk)→Prop
 | []=>True
 | p::r=>p.1 < n∧qbk n p.2∧qdo n r
def qcX (n:Nat) (W:List Nat):List Nat→Prop
 | []=>True
 | b::r=>(n≤b∨b∈W)∧qcX n W r
theorem qcm {n:Nat}: ∀ {W:List (Nat × IBlk)},qdo n W→ ∀p∈W,p.1 < n∧qbk n p.2
 | [],_,p,hp=>by cases hp
 | q::r,h,p,hp=>by rcases List.mem_cons.1 hp with rfl | hp;exact⟨h.1,h.2.1⟩;exact qcm h.2.2 p hp
theorem allIn_mem {n:Nat} {W:List Nat}: ∀ {l:List Nat},qcX n W l→ ∀b∈l,n≤b∨b∈W
 | [],_,b,hb=>by cases hb
 | c::r,h,b,hb=>by rcases List.mem_cons.1 hb with rfl | hb;exact h.1;exact allIn_mem h.2 b hb
section
variable {fn:Func} {h:IH} {x:IV} {W:List (Nat × IBlk)} {N:Nat} {s:List (Nat × IV)} {d:List IDef} {nx:Nat} {l:List (Nat × IBlk)}
@[go_sem] theorem allIn_nil {n:Nat} {w:List Nat}:qcX n w []=True:=(rfl)
@[go_sem] theorem qsz {n b:Nat} {w l:List Nat}:qcX n w (b::l)=((n≤b∨b∈w)∧qcX n w l):=(rfl)
end
def callE (P:Program) (c:FuncId) (zs:List IV) (G:Nat→Option IBlk) (K:IV→List (Nat × IBlk)→Prop):Prop:= ∃x R W,PEff P c zs R x W∧qiK G R∧K x W
theorem qm0 {c:FuncId} {zs zs':List IV} {G:Nat→Option IBlk} {K:IV→List (Nat × IBlk)→Prop} (h:zs=zs'):callE P c zs G K=callE P c zs' G K:=by rw [h]
attribute [congr] qm0
section
variable {h0:IH} {Q:Exit→qaa→Prop} {k:List It} {all:Array Oper} {r:List Oper} {dst:Option Tmp} {ty:TypeId} {pos:String} {aft:Array Edge} {N:Nat} {s:List (Nat × IV)} {d:List IDef} {nx:Nat} {l:List (Nat × IBlk)}
 {g:Option (Nat × Bool)} {f:Operand} {args:List Operand} {ts:List TypeId}
end
end Go.Idl
/-
 Lists that grow by parts; bytes; parts of strings.
-/
namespace Go.Idl
@[go_sem] theorem qsB:qfx []=some []:=rfl
end Go.Idl
namespace Go.Idl
end Go.Idl
namespace Go.Idl
end Go.Idl
namespace Go.Idl
attribute [go_sem] fb2s
end Go.Idl
namespace Go.Idl
attribute [go_sem] feqv fslnil qfB qhL eqres scs cstv fmkmap qeu
@[go_sem] theorem leq_nil:leq [] [] []=some true:=(rfl)
@[go_sem] theorem leq_int {ks:List TK} {k:IntKind} {a b:Int} {xs ys:List Value}:leq (.int k::ks) (.int k a::xs) (.int k b::ys)=(leq ks xs ys).map fun r=>(a==b) && r:=by
  simp only [leq,sleq,and_self,if_true];cases leq ks xs ys<;>rfl
end Go.Idl
namespace Go.Idl
@[go_sem] theorem fw_clo {G:Nat→Option IBlk} {ids:List Nat} {f:Fn} {a c:List IV}:fw G ids (.clo f a c) (.clo f a c)=True:=eq_true (qnw _)
variable {P:Program} {h0:IH}
theorem qe6 {all:Array Oper} {t x:Nat} {ty ty' rt:TypeId} {pos:String} {aft:Array Edge} {r:List Oper} {k:List It} {N:Nat} {s:List (Nat × IV)} {d:List IDef} {nx:Nat} {l:List (Nat × IBlk)} {Q:Exit→qaa→Prop} {sz:Nat} {rows:List (List PV)}
  (hx:look s x=some (.p (.imm sz rows))) (ht:(tel P ty).isSome=true) (hd:t < N)
  (h: ∀b:Bool,(b=true→rows= [])→IRun P h0 (.ops all r::k) ⟨N,(t,scb b)::s,d,nx,l⟩ Q):
  IRun P h0 (.ops all (⟨some t, .binOp .eql ty (.tmp x) (.const (.slice none 0 0)) ty',rt,pos,aft,none⟩::r)::k) ⟨N,s,d,nx,l⟩ Q:=by
 intro M0 hM0 M a hs hr ro hro
 obtain⟨v,v1,v2⟩:=hr.slot x _ hx
 have hv: ∃ad c,v= .slice ad rows.length c∧(ad.isNone=true→rows= []):=by
  cases v2 with
  | p _ _ hv=>cases hv with
    | imm sz rows ad cap c o' f hl hm ha hs hc hr=>
      refine⟨ad,cap,rfl,fun hn=>?_⟩
      rcases Nat.eq_zero_or_pos rows.length with h0 | h0
      ·exact List.eq_nil_of_length_eq_zero h0
      ·rw [(ha h0).1] at hn;cases hn
 obtain⟨ad,c,rfl,hn⟩:=hv
 have ev1:a.eval (.tmp x)= .slice ad rows.length c:=by
  simp only [Act.eval,Array.getD_eq_getD_getElem?,v1,Option.getD_some]
 obtain⟨r0,h1,h2⟩:=qjO (P:=P) (op:= .eql) (t:=ty) (x:= .tmp x) (y:= .const (.slice none 0 0)) (a:=ad) (l:=rows.length) (c:=c) (fr:= {x:=scb ad.isNone}) ht rfl M.w
 have hr0:r0=ad.isNone:=by
  have:=congrArg FR.x h2
  simpa [scb] using this.symm
 subst hr0
 have run:(execOp a.eval ⟨some t, .binOp .eql ty (.tmp x) (.const (.slice none 0 0)) ty',rt,pos,aft,none⟩).run P M.w= .ok (.value (.bool ad.isNone)) M.w:=by
  simp only [execOp,ev1]
  rw [show a.eval (.const (.slice none 0 0))= .slice none 0 0 from rfl,Sem.run_bind,h1]
  rfl
 refine wpListW_step (hro.mem (List.mem_cons_self ..)) fun K hK=>?_
 rw [if_pos (qa4 (o:=⟨some t, .binOp .eql ty (.tmp x) (.const (.slice none 0 0)) ty',rt,pos,aft,none⟩) hr rfl)]
 unfold Oper.wp
 rw [run]
 refine hK _ _ (h ad.isNone hn M0 hM0 M _ (hs) ?_ ro hro.tl)
 exact hr.step (.refl M) (dst:=some t) (by simp [qaE,hd]) (.sc M (.bool ad.isNone)) (nx:=nx) (W:= []) hr.heap
end Go.Idl
