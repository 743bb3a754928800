/- Facts that the proofs of this claim lean on. -/
import Derived.WalkKit
import Derived.Orders
set_option linter.unusedSimpArgs false
set_option linter.unusedVariables false
/-
 The ideal memory: values without addresses, blocks that are owned, and how both stand to the model's memory.
-/
namespace Go.Idl
inductive PV where
 | sc (v:Value)
 | emp
 | imm (sz:Nat) (rows:List (List PV))
 | rp (cells:List PV)
 | nan (k:FloatKind)
 deriving Inhabited
inductive IV where
 | p (x:PV)
 | ref (b g off len:Nat)
 | ptr (b g r j:Nat)
 | mp (b:Nat)
 | clo (fn:Fn) (first cap:List IV)
 | agg (cs:List IV)
 | tup (cs:List IV)
 | dead
 deriving Inhabited
inductive OK where
 | lp (n:Nat) (ts ps:List Nat) (assign body:Code) (pend:Option Code)
 | it (since:Nat) (seen:List Nat) (stepped:Nat)
 | df
 deriving Inhabited
inductive IBlk where
 | arr (sz gen:Nat) (rows:List (List IV))
 | mp (es:List (Value × IV))
 | ob (k:OK) (vs:List IV)
 deriving Inhabited
def IBlk.sz:IBlk→Nat
 | .arr sz _ _=>sz
 | .mp _=>0
 | .ob .. =>0
def IBlk.gen:IBlk→Nat
 | .arr _ g _=>g
 | .mp _=>0
 | .ob .. =>0
def IBlk.len:IBlk→Nat
 | .arr _ _ rows=>rows.length
 | .mp _=>0
 | .ob .. =>0
def IBlk.isMp:IBlk→Nat
 | .arr .. =>0
 | .mp _=>1
 | .ob (.lp ..) _=>2
 | .ob (.it ..) _=>3
 | .ob .df _=>4
theorem IBlk.gen_mp {b:IBlk} (h:b.isMp≠0):b.gen=0:=by cases b<;>simp_all [IBlk.isMp,IBlk.gen]
def hnd:Nat→Nat→Value
 | 1,c=> .map (some c)
 | 2,c=> .func (.yield c) #[] #[]
 | _,c=> .pointer (some ⟨c,0,none⟩)
theorem qrK (k c:Nat):(hnd k c).oneCell'=true:=by
 unfold hnd
 split<;>rfl
structure AH where
 A:Nat→Prop
 G:Nat→Option IBlk
 O:Nat→Prop:=fun _=>False
abbrev Bet:=Nat→Option (Nat × Nat × Nat)
structure Mem where
 w:World
 H:AH
 β:Bet
def Mem.own (M:Mem) (c:Nat):Prop:=M.H.O c∨ ∃b blk o n,M.H.G b=some blk∧M.β b=some (c,o,n)
inductive PRel (w:World) (own:Nat→Prop):PV→Value→Prop where
 | sc (v:Value):PRel w own (.sc v) v
 | emp (a:Option Addr):PRel w own .emp (.slice a 0 0)
 | imm (sz:Nat) (rows:List (List PV)) (a:Option Addr) (cap c o:Nat) (f:Nat→Nat→Value)
   (hl:rows.length≤cap) (hm:cap≤maxLen)
   (ha:0 < rows.length→a=some ⟨c,o,none⟩∧c < w.heap.size∧ ¬own c)
   (hs: ∀(i:Nat) (row:List PV),rows[i]? =some row→row.length=sz)
   (hc: ∀(i:Nat) (row:List PV) (j:Nat) (x:PV),rows[i]? =some row→row[j]? =some x→
    w.cell? ⟨c,o+(i * sz+j),none⟩=some (f i j)∧(f i j).oneCell'=true)
   (hr: ∀(i:Nat) (row:List PV) (j:Nat) (x:PV),rows[i]? =some row→row[j]? =some x→PRel w own x (f i j)):
   PRel w own (.imm sz rows) (.slice a rows.length cap)
 | rp (cells:List PV) (c o:Nat) (f:Nat→Value) (ha:c < w.heap.size∧ ¬own c)
   (hc: ∀(j:Nat) (x:PV),cells[j]? =some x→w.cell? ⟨c,o+j,none⟩=some (f j)∧(f j).oneCell'=true)
   (hr: ∀(j:Nat) (x:PV),cells[j]? =some x→PRel w own x (f j)):
   PRel w own (.rp cells) (.pointer (some ⟨c,o,none⟩))
 | nan (k:FloatKind) (b:Nat) (h:(k.format.read b).isNaN=true):PRel w own (.nan k) (.float k b)
theorem PRel.step {w w':World} {own own':Nat→Prop} (h1:w.heap.size≤w'.heap.size)
  (h2: ∀c,c < w.heap.size→ ¬own c→w'.heap[c]? =w.heap[c]? ∧ ¬own' c) {x:PV} {v:Value} (h:PRel w own x v):PRel w' own' x v:=by
 induction h with
 | sc v=>exact .sc v
 | emp a=>exact .emp a
 | imm sz rows a cap c o f hl hm ha hs hc hr ih=>
   refine .imm sz rows a cap c o f hl hm ?_ hs ?_ ih
   ·intro h0
    obtain⟨e,hlt,ho⟩:=ha h0
    exact⟨e,Nat.lt_of_lt_of_le hlt h1,(h2 c hlt ho).2⟩
   ·intro i row j x hi hj
    have h0:0 < rows.length:=by
     rcases Nat.eq_zero_or_pos rows.length with h | h
     ·have:rows= []:=List.eq_nil_of_length_eq_zero h
      subst this;simp at hi
     ·exact h
    obtain⟨e,hlt,ho⟩:=ha h0
    refine⟨?_,(hc i row j x hi hj).2⟩
    rw [World.cell?_of_block (w:=w) (h2 c hlt ho).1]
    exact(hc i row j x hi hj).1
 | nan k b h=>exact .nan k b h
 | rp cells c o f ha hc hr ih=>
   refine .rp cells c o f ⟨Nat.lt_of_lt_of_le ha.1 h1,(h2 c ha.1 ha.2).2⟩ (fun j x hj=>⟨?_,(hc j x hj).2⟩) ih
   rw [World.cell?_of_block (w:=w) (h2 c ha.1 ha.2).1]
   exact(hc j x hj).1
def qdl (x:Option (Nat × Nat × Nat)) (sz len0 off len:Nat) (v:Value):Prop:=
 ∃a cap,v= .slice a len cap∧len≤cap∧off+len≤len0∧len0≤off+cap∧
  (cap=0∨ ∃c o n,x=some (c,o,n)∧a=some ⟨c,o+off * sz,none⟩∧off+cap≤n)
def ptrOk (x:Option (Nat × Nat × Nat)) (sz r j:Nat) (v:Value):Prop:=
 ∃c o n,x=some (c,o,n)∧v= .pointer (some ⟨c,o+(r * sz+j),none⟩)
inductive VRel (M:Mem):IV→Value→Prop where
 | p (x:PV) (v:Value) (h:PRel M.w M.own x v):VRel M (.p x) v
 | ref (b g off len:Nat) (v:Value) (hA:M.H.A b) (hv: ∃a cap,v= .slice a len cap)
   (h: ∀blk,M.H.G b=some blk→g≤blk.gen∧(g=blk.gen→qdl (M.β b) blk.sz blk.len off len v)):VRel M (.ref b g off len) v
 | ptr (b g r j:Nat) (v:Value) (hA:M.H.A b) (hv: ∃c o,v= .pointer (some ⟨c,o,none⟩))
   (h: ∀blk,M.H.G b=some blk→g≤blk.gen∧(g=blk.gen→ptrOk (M.β b) blk.sz r j v)):VRel M (.ptr b g r j) v
 | mp (b:Nat) (v:Value) (hA:M.H.A b) (hv: ∃k c,v=hnd k c)
   (h: ∀blk,M.H.G b=some blk→blk.isMp≠0∧ ∃c o n,M.β b=some (c,o,n)∧v=hnd blk.isMp c):VRel M (.mp b) v
 | clo (fn:Fn) (first cap:List IV) (vf vc:List Value) (hf:vf.length=first.length) (hc:vc.length=cap.length)
   (rf: ∀(i:Nat) (x:IV) (v:Value),first[i]? =some x→vf[i]? =some v→VRel M x v)
   (rc: ∀(i:Nat) (x:IV) (v:Value),cap[i]? =some x→vc[i]? =some v→VRel M x v):
   VRel M (.clo fn first cap) (.func fn ⟨vf⟩ ⟨vc⟩)
 | agg (cs:List IV) (vs:List Value) (hl:vs.length=cs.length) (h1: ∀v∈vs,v.oneCell'=true)
   (r: ∀(i:Nat) (x:IV) (v:Value),cs[i]? =some x→vs[i]? =some v→VRel M x v):VRel M (.agg cs) (.agg ⟨vs⟩)
 | tup (cs:List IV) (vs:List Value) (hl:vs.length=cs.length)
   (r: ∀(i:Nat) (x:IV) (v:Value),cs[i]? =some x→vs[i]? =some v→VRel M x v):VRel M (.tup cs) (.tuple ⟨vs⟩)
 | dead (v:Value):VRel M .dead v
def qbi (cs:Array Value) (o k:Nat):Prop:=o+k≤cs.size∧ ∀(j:Nat) (v:Value),j < k→cs[o+j]? =some v→v.oneCell'=true
theorem qbi.all {cs:Array Value} {k:Nat} (h:k≤cs.size) (h1: ∀v∈cs.toList,v.oneCell'=true):qbi cs 0 k:=
 ⟨by omega,fun j v _ hv=>h1 v (by rw [Array.mem_toList_iff];exact Array.mem_of_getElem? hv)⟩
theorem qbi.sub {cs:Array Value} {o k o2 k2:Nat} (h:qbi cs o k) (h1:o≤o2) (h2:o2+k2≤o+k):qbi cs o2 k2:=
 ⟨by have:=h.1;omega,fun j v hj hv=>h.2 (o2 - o+j) v (by omega) (by rw [show o+(o2 - o+j)=o2+j by omega];exact hv)⟩
theorem qbi.put {cur:Array Value} {o k p q:Nat} {vs:List Value} (h:qbi cur o k) (hq:p+vs.length=q) (hp:q≤cur.size) (h1: ∀v∈vs,v.oneCell'=true):
  qbi (cur.toList.take p++vs++cur.toList.drop q).toArray o k:=by
 subst hq
 have hcl:cur.toList.length=cur.size:=Array.length_toList
 refine⟨?_,fun j v hj hv=>?_⟩
 ·have:=h.1
  simp only [List.size_toArray,List.length_append,List.length_take,List.length_drop];omega
 ·rw [List.getElem?_toArray,List.getElem?_append,List.length_append,List.length_take] at hv
  have hmin:min p cur.toList.length=p:=by omega
  rw [hmin] at hv
  split at hv
  ·rw [List.getElem?_append,List.length_take,hmin] at hv
   split at hv
   ·rename_i h2
    rw [List.getElem?_take,if_pos h2,Array.getElem?_toList] at hv
    exact h.2 j v hj hv
   ·exact h1 v (List.mem_of_getElem? hv)
  ·rw [List.getElem?_drop,Array.getElem?_toList] at hv
   refine h.2 j v hj ?_
   rw [←hv];congr 1;omega
def ORel:OK→List Value→Obj→Prop
 | .lp n ts ps as bo pend,us,ob=> ∃fn tmps D,ob= .loop {state:=(match pend with | none=> .ready | some _=> .done),pending:=pend,fn,tmps,params:=⟨ps⟩,assign:=as,body:=bo,defers:=D}∧tmps.size=n∧
   ts.length=us.length∧ ∀(i:Nat) (t:Nat) (v:Value),ts[i]? =some t→us[i]? =some v→tmps[t]? =some v
 | .it since seen stepped,us,ob=> ∃m,us= [.map (some m)]∧ob= .mapIter (some m) since ⟨seen⟩ stepped
 | .df,us,ob=>us= []∧ob= .deferred (some [])
def BRel (M:Mem) (b:Nat):IBlk→Prop
 | .arr sz _ rows=>(∀row∈rows,row.length=sz)∧(M.β b=none→rows= [])∧
   ∀c o n,M.β b=some (c,o,n)→ ∃cs ty,M.w.heap[c]? =some (.cells cs ty (0,0))∧rows.length≤n∧n≤maxLen∧qbi cs o (n * sz)∧
    ∀(i:Nat) (row:List IV) (j:Nat) (x:IV),rows[i]? =some row→row[j]? =some x→
     ∃v,cs[o+(i * sz+j)]? =some v∧v.oneCell'=true∧VRel M x v
 | .mp es=> ∃c o n,M.β b=some (c,o,n)∧ ∃es' clock,M.w.heap[c]? =some (.map es' clock)∧(es'.size=es.length∧clock=es.length)∧
   ∀(i:Nat) (k:Value) (x:IV),es[i]? =some (k,x)→ ∃e,es'[i]? =some e∧(e.key=k∧e.born=i)∧VRel M x e.val
 | .ob k vs=> ∃c o n,M.β b=some (c,o,n)∧ ∃ob us,M.w.heap[c]? =some ob∧ORel k us ob∧us.length=vs.length∧
   ∀(i:Nat) (x:IV) (v:Value),vs[i]? =some x→us[i]? =some v→VRel M x v
structure MRel (M:Mem):Prop where
 dom: ∀b blk,M.H.G b=some blk→M.H.A b
 blk: ∀b blk,M.H.G b=some blk→BRel M b blk
 inj: ∀b b' blk blk' c o n o' n',M.H.G b=some blk→M.H.G b'=some blk'→M.β b=some (c,o,n)→M.β b'=some (c,o',n')→b=b'
 olt: ∀c,M.H.O c→c < M.w.heap.size
 odis: ∀b blk c o n,M.H.G b=some blk→M.β b=some (c,o,n)→ ¬M.H.O c
structure qae (M M':Mem):Prop where
 os:M'.w.os=M.w.os
 tape:M'.w.tape=M.w.tape
 output:M'.w.output=M.w.output
 size:M.w.heap.size≤M'.w.heap.size
 keep: ∀c,c < M.w.heap.size→ ¬M.own c→M'.w.heap[c]? =M.w.heap[c]? ∧ ¬M'.own c
 dom: ∀b,M.H.A b→M'.H.A b
 comp: ∀b blk',M.H.A b→M'.H.G b=some blk'→ ∃blk,M.H.G b=some blk∧blk'.sz=blk.sz∧blk'.isMp=blk.isMp∧blk.gen≤blk'.gen∧
  (blk.gen=blk'.gen→M'.β b=M.β b∧blk'.len=blk.len)
 oeq:M'.H.O=M.H.O
 ofix: ∀c,M.H.O c→M'.w.heap[c]? =M.w.heap[c]?
theorem qae.refl (M:Mem):qae M M:=
 ⟨rfl,rfl,rfl,Nat.le_refl _,fun _ _ h=>⟨rfl,h⟩,fun _ h=>h,fun _ blk' _ h=>⟨blk',h,rfl,rfl,Nat.le_refl _,fun _=>⟨rfl,rfl⟩⟩,rfl,fun _ _=>rfl⟩
theorem qae.trans {M M' M'':Mem} (h:qae M M') (k:qae M' M''):qae M M'':=by
 refine⟨k.os.trans h.os,k.tape.trans h.tape,k.output.trans h.output,Nat.le_trans h.size k.size,?_,fun b hb=>k.dom b (h.dom b hb),?_,k.oeq.trans h.oeq,fun c hc=>(k.ofix c (by rw [h.oeq];exact hc)).trans (h.ofix c hc)⟩
 ·intro c hc ho
  obtain⟨e1,o1⟩:=h.keep c hc ho
  obtain⟨e2,o2⟩:=k.keep c (Nat.lt_of_lt_of_le hc h.size) o1
  exact⟨e2.trans e1,o2⟩
 ·intro b blk'' hA hb
  obtain⟨blk',hb',hs',hm',hg',he'⟩:=k.comp b blk'' (h.dom b hA) hb
  obtain⟨blk,hb0,hs,hm,hg,he⟩:=h.comp b blk' hA hb'
  refine⟨blk,hb0,hs'.trans hs,hm'.trans hm,Nat.le_trans hg hg',fun e=>?_⟩
  have e1:blk.gen=blk'.gen:=by omega
  have e2:blk'.gen=blk''.gen:=by omega
  exact⟨(he' e2).1.trans (he e1).1,(he' e2).2.trans (he e1).2⟩
theorem VRel.step {M M':Mem} (s:qae M M') {x:IV} {v:Value} (h:VRel M x v):VRel M' x v:=by
 induction h with
 | p x v h=>exact .p x v (h.step s.size s.keep)
 | ref b g off len v hA hv h=>
   refine .ref b g off len v (s.dom b hA) hv fun blk' hb=>?_
   obtain⟨blk,hb0,hs,hm,hg,he⟩:=s.comp b blk' hA hb
   obtain⟨h1,h2⟩:=h blk hb0
   refine⟨Nat.le_trans h1 hg,fun e=>?_⟩
   have e1:blk.gen=blk'.gen:=by omega
   rw [hs,(he e1).1,(he e1).2]
   exact h2 (by omega)
 | ptr b g r j v hA hv h=>
   refine .ptr b g r j v (s.dom b hA) hv fun blk' hb=>?_
   obtain⟨blk,hb0,hs,hm,hg,he⟩:=s.comp b blk' hA hb
   obtain⟨h1,h2⟩:=h blk hb0
   refine⟨Nat.le_trans h1 hg,fun e=>?_⟩
   have e1:blk.gen=blk'.gen:=by omega
   rw [hs,(he e1).1]
   exact h2 (by omega)
 | mp b v hA hv h=>
   refine .mp b v (s.dom b hA) hv fun blk' hb=>?_
   obtain⟨blk,hb0,hs,hm,hg,he⟩:=s.comp b blk' hA hb
   obtain⟨h1,h2⟩:=h blk hb0
   refine⟨by rw [hm];exact h1,?_⟩
   rw [(he (by rw [IBlk.gen_mp h1,IBlk.gen_mp (by rw [hm];exact h1)])).1,hm]
   exact h2
 | clo fn first cap vf vc hf hc rf rc i1 i2=>exact .clo fn first cap vf vc hf hc i1 i2
 | agg cs vs hl h1 r ih=>exact .agg cs vs hl h1 ih
 | tup cs vs hl r ih=>exact .tup cs vs hl ih
 | dead v=>exact .dead v
theorem MRel.change {M M':Mem} (h:MRel M) (s:qae M M') (b:Nat)
  (hA:M'.H.A b) (hG: ∀b',b'≠b→M'.H.G b'=M.H.G b') (hβ: ∀b',b'≠b→M'.β b'=M.β b')
  (hw: ∀b' blk c o n,b'≠b→M.H.G b'=some blk→M.β b'=some (c,o,n)→M'.w.heap[c]? =M.w.heap[c]?)
  (hb: ∀blk',M'.H.G b=some blk'→BRel M' b blk')
  (hi: ∀blk' c o n,M'.H.G b=some blk'→M'.β b=some (c,o,n)→ ∀b' blk o' n',b'≠b→M.H.G b'=some blk→M.β b'≠some (c,o',n'))
  (ho: ∀blk' c o n,M'.H.G b=some blk'→M'.β b=some (c,o,n)→ ¬M.H.O c):MRel M':=by
 refine⟨?_,?_,?_,fun c hc=>Nat.lt_of_lt_of_le (h.olt c (by rw [←s.oeq];exact hc)) s.size,fun b' blk c o n h1 h2 h3=>?_⟩
 case refine_4=>
  rw [s.oeq] at h3
  by_cases e:b'=b
  ·subst e;exact ho blk c o n h1 h2 h3
  ·rw [hG b' e] at h1;rw [hβ b' e] at h2;exact h.odis b' blk c o n h1 h2 h3
 ·intro b' blk hb'
  by_cases e:b'=b
  ·subst e;exact hA
  ·rw [hG b' e] at hb'
   exact s.dom b' (h.dom b' blk hb')
 ·intro b' blk hb'
  by_cases e:b'=b
  ·subst e;exact hb blk hb'
  ·have hb0:=hb'
   rw [hG b' e] at hb0
   have hr:=h.blk b' blk hb0
   cases blk with
   | arr sz gen rows=>
     obtain⟨r1,r2,r3⟩:=hr
     refine⟨r1,fun hn=>r2 (by rw [←hβ b' e];exact hn),fun c o n hc=>?_⟩
     rw [hβ b' e] at hc
     obtain⟨cs,ty,q1,q2,q3,q4,q5⟩:=r3 c o n hc
     refine⟨cs,ty,?_,q2,q3,q4,fun i row j x hi hj=>?_⟩
     ·rw [hw b' _ c o n e hb0 hc];exact q1
     ·obtain⟨v,v1,v2,v3⟩:=q5 i row j x hi hj
      exact⟨v,v1,v2,v3.step s⟩
   | mp es=>
     obtain⟨c,o,n,hc,es',clock,q1,q2,q3⟩:=hr
     refine⟨c,o,n,by rw [hβ b' e];exact hc,es',clock,by rw [hw b' _ c o n e hb0 hc];exact q1,q2,fun i k x hi=>?_⟩
     obtain⟨en,e1,e2,e3⟩:=q3 i k x hi
     exact⟨en,e1,e2,e3.step s⟩
   | ob k vs=>
     obtain⟨c,o,n,hc,ob,us,q1,q2,q3,q4⟩:=hr
     exact⟨c,o,n,by rw [hβ b' e];exact hc,ob,us,by rw [hw b' _ c o n e hb0 hc];exact q1,q2,q3,fun i x v hi hv=>(q4 i x v hi hv).step s⟩
 ·intro b1 b2 blk1 blk2 c o n o' n' h1 h2 c1 c2
  by_cases e1:b1=b
  ·by_cases e2:b2=b
   ·rw [e1,e2]
   ·subst e1
    rw [hG b2 e2] at h2
    rw [hβ b2 e2] at c2
    exact absurd c2 (hi blk1 c o n h1 c1 b2 blk2 o' n' e2 h2)
  ·by_cases e2:b2=b
   ·subst e2
    rw [hG b1 e1] at h1
    rw [hβ b1 e1] at c1
    exact absurd c1 (hi blk2 c o' n' h2 c2 b1 blk1 o n e1 h1)
   ·rw [hG b1 e1] at h1
    rw [hβ b1 e1] at c1
    rw [hG b2 e2] at h2
    rw [hβ b2 e2] at c2
    exact h.inj b1 b2 blk1 blk2 c o n o' n' h1 h2 c1 c2
theorem MRel.same {M:Mem} (h:MRel M) {w':World} (s:qae M {M with w:=w'})
  (hw: ∀c,M.own c→w'.heap[c]? =M.w.heap[c]?):MRel {M with w:=w'}:=by
 refine⟨h.dom,?_,h.inj,fun c hc=>Nat.lt_of_lt_of_le (h.olt c hc) s.size,h.odis⟩
 intro b blk hb
 have hr:=h.blk b blk hb
 cases blk with
 | arr sz gen rows=>
   obtain⟨r1,r2,r3⟩:=hr
   refine⟨r1,r2,fun c o n hc=>?_⟩
   obtain⟨cs,ty,q1,q2,q3,q4,q5⟩:=r3 c o n hc
   refine⟨cs,ty,?_,q2,q3,q4,fun i row j x hi hj=>?_⟩
   ·exact(hw c (.inr ⟨b,_,o,n,hb,hc⟩)).trans q1
   ·obtain⟨v,v1,v2,v3⟩:=q5 i row j x hi hj
    exact⟨v,v1,v2,v3.step s⟩
 | mp es=>
   obtain⟨c,o,n,hc,es',clock,q1,q2,q3⟩:=hr
   refine⟨c,o,n,hc,es',clock,(hw c (.inr ⟨b,_,o,n,hb,hc⟩)).trans q1,q2,fun i k x hi=>?_⟩
   obtain⟨en,e1,e2,e3⟩:=q3 i k x hi
   exact⟨en,e1,e2,e3.step s⟩
 | ob k vs=>
   obtain⟨c,o,n,hc,ob,us,q1,q2,q3,q4⟩:=hr
   exact⟨c,o,n,hc,ob,us,(hw c (.inr ⟨b,_,o,n,hb,hc⟩)).trans q1,q2,q3,fun i x v hi hv=>(q4 i x v hi hv).step s⟩
theorem MRel.lt {M:Mem} (h:MRel M) {c:Nat} (ho:M.own c):c < M.w.heap.size:=by
 rcases ho with ho | ⟨b,blk,o,n,hb,hc⟩
 ·exact h.olt c ho
 have hr:=h.blk b blk hb
 cases blk with
 | arr sz gen rows=>
   obtain⟨cs,ty,q1,_⟩:=hr.2.2 c o n hc
   exact(Array.getElem?_eq_some_iff.1 q1).1
 | mp es=>
   obtain⟨c',o',n',hc',es',clock,q1,_⟩:=hr
   rw [hc] at hc'
   cases hc'
   exact(Array.getElem?_eq_some_iff.1 q1).1
 | ob k vs=>
   obtain⟨c',o',n',hc',ob,us,q1,_⟩:=hr
   rw [hc] at hc'
   cases hc'
   exact(Array.getElem?_eq_some_iff.1 q1).1
theorem qae.drew (M:Mem):qae M {M with w:=M.w.drew}:=
 ⟨rfl,rfl,rfl,Nat.le_refl _,fun _ _ h=>⟨rfl,h⟩,fun _ h=>h,fun _ blk' _ h=>⟨blk',h,rfl,rfl,Nat.le_refl _,fun _=>⟨rfl,rfl⟩⟩,rfl,fun _ _=>rfl⟩
theorem MRel.drew {M:Mem} (h:MRel M):MRel {M with w:=M.w.drew}:=h.same (.drew M) fun _ _=>rfl
theorem qae.alloc {M:Mem} (hM:MRel M) (o:Obj):qae M {M with w:=M.w.alloc o}:=
 ⟨rfl,rfl,rfl,by simp,fun _ hc h=>⟨heap_alloc_old M.w o hc,h⟩,fun _ h=>h,fun _ blk' _ h=>⟨blk',h,rfl,rfl,Nat.le_refl _,fun _=>⟨rfl,rfl⟩⟩,rfl,fun _ hc=>heap_alloc_old M.w o (hM.olt _ hc)⟩
theorem MRel.alloc {M:Mem} (h:MRel M) (o:Obj):MRel {M with w:=M.w.alloc o}:=h.same (.alloc h o) fun _ ho=>heap_alloc_old M.w o (h.lt ho)
def AH.put (H:AH) (b:Nat) (blk:IBlk):AH:=⟨fun k=>H.A k∨k=b,fun k=>if k=b then some blk else H.G k,H.O⟩
def putβ (β:Bet) (b:Nat) (x:Option (Nat × Nat × Nat)):Bet:=fun k=>if k=b then x else β k
theorem qda {M:Mem} (h:MRel M) (b:Nat) (hA: ¬M.H.A b) (sz gen n:Nat) (rows:List (List IV)) (cs:Array Value) (ty:TypeId)
  (hs: ∀row∈rows,row.length=sz) (hn:rows.length≤n) (hm:n≤maxLen) (hc:qbi cs 0 (n * sz))
  (hr: ∀(i:Nat) (row:List IV) (j:Nat) (x:IV),rows[i]? =some row→row[j]? =some x→ ∃v,cs[i * sz+j]? =some v∧v.oneCell'=true∧VRel M x v):
  qae M ⟨M.w.alloc (.cells cs ty),M.H.put b (.arr sz gen rows),putβ M.β b (some (M.w.heap.size,0,n))⟩∧
  MRel ⟨M.w.alloc (.cells cs ty),M.H.put b (.arr sz gen rows),putβ M.β b (some (M.w.heap.size,0,n))⟩:=by
 have s:qae M ⟨M.w.alloc (.cells cs ty),M.H.put b (.arr sz gen rows),putβ M.β b (some (M.w.heap.size,0,n))⟩:=by
  refine⟨rfl,rfl,rfl,by simp,fun c hc ho=>⟨heap_alloc_old M.w _ hc,?_⟩,fun _ h=> .inl h,fun b' blk' hA' hb'=>?_,rfl,fun _ hc=>heap_alloc_old M.w _ (h.olt _ hc)⟩
  ·rintro(hO | ⟨b',blk,o,n',hb',hc'⟩)
   ·exact ho (.inl hO)
   by_cases e:b'=b
   ·simp [putβ,e] at hc'
    omega
   ·simp only [AH.put,putβ,e,if_false] at hb' hc'
    exact ho (.inr ⟨b',blk,o,n',hb',hc'⟩)
  ·have e:b'≠b:=fun e=>hA (e ▸hA')
   simp only [AH.put,e,if_false] at hb'
   exact⟨blk',hb',rfl,rfl,Nat.le_refl _,fun _=>⟨by simp [putβ,e],rfl⟩⟩
 refine⟨s,h.change s b (.inr rfl) ?_ ?_ ?_ ?_ ?_ ?_⟩
 ·intro b' e;simp [AH.put,e]
 ·intro b' e;simp [putβ,e]
 ·intro b' blk c o n' e hb' hc'
  exact heap_alloc_old M.w _ (h.lt (.inr ⟨b',blk,o,n',hb',hc'⟩))
 ·intro blk' hb'
  simp only [AH.put,if_true,Option.some.injEq] at hb'
  subst hb'
  refine⟨hs,by simp [putβ],fun c o n' hc'=>?_⟩
  simp only [putβ,if_true,Option.some.injEq,Prod.mk.injEq] at hc'
  obtain⟨rfl,rfl,rfl⟩:=hc'
  refine⟨cs,ty,heap_alloc_new M.w _,hn,hm,hc,fun i row j x hi hj=>?_⟩
  obtain⟨v,v1,v2,v3⟩:=hr i row j x hi hj
  exact⟨v,by simpa using v1,v2,v3.step s⟩
 ·intro blk' c o n' hb' hc' b' blk o' n'' e hb'' hc''
  simp only [putβ,if_true,Option.some.injEq,Prod.mk.injEq] at hc'
  have:=h.lt (.inr ⟨b',blk,o',n'',hb'',hc''⟩)
  omega
 ·intro blk' c o n' _ hc' hO
  simp only [putβ,if_true,Option.some.injEq,Prod.mk.injEq] at hc'
  have:=h.olt c hO
  omega
theorem qem {M:Mem} (h:MRel M) (b:Nat) (hA: ¬M.H.A b) (sz gen:Nat):
  qae M ⟨M.w,M.H.put b (.arr sz gen []),putβ M.β b none⟩∧MRel ⟨M.w,M.H.put b (.arr sz gen []),putβ M.β b none⟩:=by
 have s:qae M ⟨M.w,M.H.put b (.arr sz gen []),putβ M.β b none⟩:=by
  refine⟨rfl,rfl,rfl,Nat.le_refl _,fun c _ ho=>⟨rfl,?_⟩,fun _ h=> .inl h,fun b' blk' hA' hb'=>?_,rfl,fun _ _=>rfl⟩
  ·rintro(hO | ⟨b',blk,o,n',hb',hc'⟩)
   ·exact ho (.inl hO)
   by_cases e:b'=b
   ·simp [putβ,e] at hc'
   ·simp only [AH.put,putβ,e,if_false] at hb' hc'
    exact ho (.inr ⟨b',blk,o,n',hb',hc'⟩)
  ·have e:b'≠b:=fun e=>hA (e ▸hA')
   simp only [AH.put,e,if_false] at hb'
   exact⟨blk',hb',rfl,rfl,Nat.le_refl _,fun _=>⟨by simp [putβ,e],rfl⟩⟩
 refine⟨s,h.change s b (.inr rfl) ?_ ?_ ?_ ?_ ?_ ?_⟩
 ·intro b' e;simp [AH.put,e]
 ·intro b' e;simp [putβ,e]
 ·intro b' blk c o n' e hb' hc';rfl
 ·intro blk' hb'
  simp only [AH.put,if_true,Option.some.injEq] at hb'
  subst hb'
  exact⟨by simp,by simp,fun c o n' hc'=>by simp [putβ] at hc'⟩
 ·intro blk' c o n' hb' hc';simp [putβ] at hc'
 ·intro blk' c o n' hb' hc';simp [putβ] at hc'
theorem mem_chg {M:Mem} (h:MRel M) {b sz g:Nat} {rows:List (List IV)} {c o n:Nat} {cs:Array Value} {ty:TypeId}
  (hb:M.H.G b=some (.arr sz g rows)) (hβ:M.β b=some (c,o,n)) (hc:M.w.heap[c]? =some (.cells cs ty (0,0)))
  (g' o' n':Nat) (rows':List (List IV)) (cs':Array Value) (hg:g≤g') (hgg:g=g'→o'=o∧n'=n∧rows'.length=rows.length)
  (hs: ∀row∈rows',row.length=sz) (hn:rows'.length≤n') (hm:n'≤maxLen) (hsz:qbi cs' o' (n' * sz))
  (hr: ∀(i:Nat) (row:List IV) (j:Nat) (x:IV),rows'[i]? =some row→row[j]? =some x→ ∃v,cs'[o'+(i * sz+j)]? =some v∧v.oneCell'=true∧VRel M x v):
  qae M ⟨M.w.setRow c cs',M.H.put b (.arr sz g' rows'),putβ M.β b (some (c,o',n'))⟩∧
  MRel ⟨M.w.setRow c cs',M.H.put b (.arr sz g' rows'),putβ M.β b (some (c,o',n'))⟩:=by
 have hown:M.own c:= .inr ⟨b,_,o,n,hb,hβ⟩
 have s:qae M ⟨M.w.setRow c cs',M.H.put b (.arr sz g' rows'),putβ M.β b (some (c,o',n'))⟩:=by
  refine⟨rfl,rfl,rfl,by simp,fun c' hc' ho=>⟨setRow_other M.w c c' cs' (fun e=>ho (e ▸hown)),?_⟩,fun _ h=> .inl h,fun b' blk' hA' hb'=>?_,rfl,fun c' hc'=>setRow_other M.w c c' cs' (fun e=>h.odis b _ c o n hb hβ (e ▸hc'))⟩
  ·rintro(hO | ⟨b',blk,o'',n'',hb',hc''⟩)
   ·exact ho (.inl hO)
   by_cases e:b'=b
   ·simp only [putβ,e,if_true,Option.some.injEq,Prod.mk.injEq] at hc''
    exact ho (hc''.1 ▸hown)
   ·simp only [AH.put,putβ,e,if_false] at hb' hc''
    exact ho (.inr ⟨b',blk,o'',n'',hb',hc''⟩)
  ·by_cases e:b'=b
   ·subst e
    simp only [AH.put,if_true,Option.some.injEq] at hb'
    subst hb'
    refine⟨_,hb,rfl,rfl,hg,fun e=>?_⟩
    obtain⟨e1,e2,e3⟩:=hgg e
    exact⟨by simp [putβ,hβ,e1,e2],e3⟩
   ·simp only [AH.put,e,if_false] at hb'
    exact⟨blk',hb',rfl,rfl,Nat.le_refl _,fun _=>⟨by simp [putβ,e],rfl⟩⟩
 refine⟨s,h.change s b (.inr rfl) ?_ ?_ ?_ ?_ ?_ ?_⟩
 ·intro b' e;simp [AH.put,e]
 ·intro b' e;simp [putβ,e]
 ·intro b' blk c' o'' n'' e hb' hc'
  exact setRow_other M.w c c' cs' (fun e2=>e (h.inj b' b blk _ c o'' n'' o n hb' hb (e2 ▸hc') hβ))
 ·intro blk' hb'
  simp only [AH.put,if_true,Option.some.injEq] at hb'
  subst hb'
  refine⟨hs,by simp [putβ],fun c' o'' n'' hc'=>?_⟩
  simp only [putβ,if_true,Option.some.injEq,Prod.mk.injEq] at hc'
  obtain⟨rfl,rfl,rfl⟩:=hc'
  refine⟨cs',ty,setRow_heap M.w c cs cs' ty (0,0) hc,hn,hm,hsz,fun i row j x hi hj=>?_⟩
  obtain⟨v,v1,v2,v3⟩:=hr i row j x hi hj
  exact⟨v,v1,v2,v3.step s⟩
 ·intro blk' c' o'' n'' hb' hc' b' blk o3 n3 e hb'' hc''
  simp only [putβ,if_true,Option.some.injEq,Prod.mk.injEq] at hc'
  obtain⟨rfl,rfl,rfl⟩:=hc'
  exact e (h.inj b' b blk _ c o3 n3 o n hb'' hb hc'' hβ)
 ·intro blk' c' o'' n'' _ hc' hO
  simp only [putβ,if_true,Option.some.injEq,Prod.mk.injEq] at hc'
  obtain⟨rfl,rfl,rfl⟩:=hc'
  exact h.odis b _ c o n hb hβ hO
theorem qpJ {M:Mem} (h:MRel M) {b sz g:Nat} {rows:List (List IV)} (hb:M.H.G b=some (.arr sz g rows))
  (g' n':Nat) (rows':List (List IV)) (cs':Array Value) (ty:TypeId) (hg:g < g')
  (hs: ∀row∈rows',row.length=sz) (hn:rows'.length≤n') (hm:n'≤maxLen) (hsz:qbi cs' 0 (n' * sz))
  (hr: ∀(i:Nat) (row:List IV) (j:Nat) (x:IV),rows'[i]? =some row→row[j]? =some x→ ∃v,cs'[i * sz+j]? =some v∧v.oneCell'=true∧VRel M x v):
  qae M ⟨M.w.alloc (.cells cs' ty),M.H.put b (.arr sz g' rows'),putβ M.β b (some (M.w.heap.size,0,n'))⟩∧
  MRel ⟨M.w.alloc (.cells cs' ty),M.H.put b (.arr sz g' rows'),putβ M.β b (some (M.w.heap.size,0,n'))⟩:=by
 have s:qae M ⟨M.w.alloc (.cells cs' ty),M.H.put b (.arr sz g' rows'),putβ M.β b (some (M.w.heap.size,0,n'))⟩:=by
  refine⟨rfl,rfl,rfl,by simp,fun c' hc' ho=>⟨heap_alloc_old M.w _ hc',?_⟩,fun _ h=> .inl h,fun b' blk' hA' hb'=>?_,rfl,fun _ hc=>heap_alloc_old M.w _ (h.olt _ hc)⟩
  ·rintro(hO | ⟨b',blk,o'',n'',hb',hc''⟩)
   ·exact ho (.inl hO)
   by_cases e:b'=b
   ·simp only [putβ,e,if_true,Option.some.injEq,Prod.mk.injEq] at hc''
    omega
   ·simp only [AH.put,putβ,e,if_false] at hb' hc''
    exact ho (.inr ⟨b',blk,o'',n'',hb',hc''⟩)
  ·by_cases e:b'=b
   ·subst e
    simp only [AH.put,if_true,Option.some.injEq] at hb'
    subst hb'
    refine⟨_,hb,rfl,rfl,Nat.le_of_lt hg,fun e=>?_⟩
    simp only [IBlk.gen] at e
    omega
   ·simp only [AH.put,e,if_false] at hb'
    exact⟨blk',hb',rfl,rfl,Nat.le_refl _,fun _=>⟨by simp [putβ,e],rfl⟩⟩
 refine⟨s,h.change s b (.inr rfl) ?_ ?_ ?_ ?_ ?_ ?_⟩
 ·intro b' e;simp [AH.put,e]
 ·intro b' e;simp [putβ,e]
 ·intro b' blk c' o'' n'' e hb' hc'
  exact heap_alloc_old M.w _ (h.lt (.inr ⟨b',blk,o'',n'',hb',hc'⟩))
 ·intro blk' hb'
  simp only [AH.put,if_true,Option.some.injEq] at hb'
  subst hb'
  refine⟨hs,by simp [putβ],fun c' o'' n'' hc'=>?_⟩
  simp only [putβ,if_true,Option.some.injEq,Prod.mk.injEq] at hc'
  obtain⟨rfl,rfl,rfl⟩:=hc'
  refine⟨cs',ty,heap_alloc_new M.w _,hn,hm,hsz,fun i row j x hi hj=>?_⟩
  obtain⟨v,v1,v2,v3⟩:=hr i row j x hi hj
  exact⟨v,by simpa using v1,v2,v3.step s⟩
 ·intro blk' c' o'' n'' hb' hc' b' blk o3 n3 e hb'' hc''
  simp only [putβ,if_true,Option.some.injEq,Prod.mk.injEq] at hc'
  have:=h.lt (.inr ⟨b',blk,o3,n3,hb'',hc''⟩)
  omega
 ·intro blk' c o n' _ hc' hO
  simp only [putβ,if_true,Option.some.injEq,Prod.mk.injEq] at hc'
  have:=h.olt c hO
  omega
/-! ## types -/
def tsz (P:Program) (t:TypeId):Option Nat:=(P.info? t).map (·.size)
def tby (P:Program) (t:TypeId):Option Nat:=(P.info? t).map (·.bytes)
def tze (P:Program) (t:TypeId):Option (List Value):=(P.info? t).bind fun i=>i.zero.map fun z=>z.cells.toList
def tag (P:Program) (t:TypeId):Option Bool:=(P.underlying t).map fun d=>match d with | .struct _ | .array _ _=>true | _=>false
def tel (P:Program) (t:TypeId):Option TypeId:=match P.underlying t with | some (.slice e)=>some e | _=>none
def tar (P:Program) (t:TypeId):Option (Nat × TypeId):=match P.underlying t with | some (.array n e)=>some (n,e) | _=>none
def tfo (P:Program) (t:TypeId) (f:Nat):Option (Nat × TypeId):=match P.underlying t with | some (.struct fs)=>(fs[f]?).map fun x=>(x.offset,x.type) | _=>none
inductive TK where
 | bool | int (k:IntKind) | float (k:FloatKind) | string | slice (e:TypeId) | map (k e:TypeId) | iface | other
 deriving DecidableEq
def tkd (P:Program) (t:TypeId):Option TK:=(P.underlying t).map fun d=>match d with
 | .bool=> .bool | .int k=> .int k | .float k=> .float k | .string=> .string | .slice e=> .slice e | .map k e=> .map k e | .interface _=> .iface | _=> .other
section
variable {P:Program}
theorem qaC {t:TypeId} {n:Nat} (h:tsz P t=some n) (w:World):(sizeOf t).run P w= .ok n w:=by
 unfold tsz at h
 cases hi:P.info? t with
 | none=>simp [hi] at h
 | some i=>simp [hi] at h;subst h;simp [sizeOf,typeInfo,hi]
theorem qcp {t:TypeId} {b:Bool} (h:tag P t=some b) (w:World):(isAgg t).run P w= .ok b w:=by
 unfold tag at h
 cases hu:P.underlying t with
 | none=>simp [hu] at h
 | some d=>
   simp only [hu,Option.map_some,Option.some.injEq] at h
   unfold isAgg
   rw [Sem.run_bind,run_underlying hu w]
   cases d<;>simp_all
theorem und_tel {t e:TypeId} (h:tel P t=some e):P.underlying t=some (.slice e):=by
 unfold tel at h
 split at h
 ·rename_i e' hu;simp at h;subst h;exact hu
 ·cases h
theorem und_tar {t e:TypeId} {n:Nat} (h:tar P t=some (n,e)):P.underlying t=some (.array n e):=by
 unfold tar at h
 split at h
 ·rename_i n' e' hu;simp at h;obtain⟨rfl,rfl⟩:=h;exact hu
 ·cases h
theorem und_tfo {t ft:TypeId} {f off:Nat} (h:tfo P t f=some (off,ft)): ∃fs x,P.underlying t=some (.struct fs)∧fs[f]? =some x∧x.offset=off∧x.type=ft:=by
 unfold tfo at h
 split at h
 ·rename_i fs hu
  cases hx:fs[f]? with
  | none=>simp [hx] at h
  | some x=>simp [hx] at h;exact⟨fs,x,hu,hx,h.1,h.2⟩
 ·cases h
end
/-! ## what an operation does, as far as it reaches -/
def AH.upd (H:AH) (W:List (Nat × IBlk)):AH:=W.foldl (fun H p=>H.put p.1 p.2) H
def qbh (P:Program) (o:Oper) (ρ:Operand→Option IV) (R:List (Nat × IBlk)) (F:List Nat) (x:IV) (W:List (Nat × IBlk)):Prop:=
 ∀(M:Mem) (a:Act),MRel M→(∀p∈R,M.H.G p.1=some p.2)→(∀b∈F,¬M.H.A b)→
  (∀y∈o.op.operands,∀z,ρ y=some z→VRel M z (a.eval y))→
  ∀(K:Act→World→Prop) (Q:Exit→Act→World→Prop),
   (∀v M',qae M M'→MRel M'→M'.H=M.H.upd W→VRel M' x v→K (a.put o.dst v) M'.w)→o.wp P a M.w K Q
theorem qbh.read {P:Program} {o:Oper} {ρ:Operand→Option IV} {R:List (Nat × IBlk)} {x:IV}
  (h: ∀(M:Mem) (a:Act),MRel M→(∀p∈R,M.H.G p.1=some p.2)→(∀y∈o.op.operands,∀z,ρ y=some z→VRel M z (a.eval y))→
   ∃v,(execOp a.eval o).run P M.w= .ok (.value v) M.w∧VRel M x v):qbh P o ρ R [] x []:=by
 intro M a hM hR _ hr K Q hK
 obtain⟨v,hv,hx⟩:=h M a hM hR hr
 unfold Oper.wp
 rw [hv]
 exact hK v M (.refl M) hM rfl hx
theorem qbh.does {P:Program} {o:Oper} {ρ:Operand→Option IV} {R W:List (Nat × IBlk)} {F:List Nat} {x:IV}
  (h: ∀(M:Mem) (a:Act),MRel M→(∀p∈R,M.H.G p.1=some p.2)→(∀b∈F,¬M.H.A b)→(∀y∈o.op.operands,∀z,ρ y=some z→VRel M z (a.eval y))→
   ∃v M',(execOp a.eval o).run P M.w= .ok (.value v) M'.w∧qae M M'∧MRel M'∧M'.H=M.H.upd W∧VRel M' x v):qbh P o ρ R F x W:=by
 intro M a hM hR hF hr K Q hK
 obtain⟨v,M',hv,h1,h2,h3,h4⟩:=h M a hM hR hF hr
 unfold Oper.wp
 rw [hv]
 exact hK v M' h1 h2 h3 h4
theorem qbh.skips {P:Program} {o:Oper} {ρ:Operand→Option IV} {R W:List (Nat × IBlk)} {F:List Nat}
  (h: ∀(M:Mem) (a:Act),MRel M→(∀p∈R,M.H.G p.1=some p.2)→(∀b∈F,¬M.H.A b)→(∀y∈o.op.operands,∀z,ρ y=some z→VRel M z (a.eval y))→
   ∃M',(execOp a.eval o).run P M.w= .ok .skip M'.w∧qae M M'∧MRel M'∧M'.H=M.H.upd W):qbh P o ρ R F .dead W:=by
 intro M a hM hR hF hr K Q hK
 obtain⟨M',hv,h1,h2,h3⟩:=h M a hM hR hF hr
 unfold Oper.wp
 rw [hv]
 exact hK undef M' h1 h2 h3 (.dead _)
structure FR where
 x:IV
 R:List (Nat × IBlk):= []
 F:List Nat:= []
 W:List (Nat × IBlk):= []
def qea (P:Program) (t:TypeId) (row:List IV):Option IV:=
 match tag P t with
 | some true=>match tsz P t with
   | some n=>if n≤row.length then some (.agg (row.take n)) else none
   | none=>none
 | some false=>row.head?
 | none=>none
def sci (k:IntKind) (n:Int):IV:= .p (.sc (.int k n))
def scb (b:Bool):IV:= .p (.sc (.bool b))
theorem VRel.sc_inv {M:Mem} {v u:Value} (h:VRel M (.p (.sc v)) u):u=v:=by
 cases h with
 | p x v h=>cases h;rfl
theorem VRel.sc (M:Mem) (v:Value):VRel M (.p (.sc v)) v:= .p _ _ (.sc v)
theorem VRel.agg_inv {M:Mem} {cs:List IV} {u:Value} (h:VRel M (.agg cs) u):
  ∃vs:List Value,u= .agg ⟨vs⟩∧vs.length=cs.length∧(∀v∈vs,v.oneCell'=true)∧ ∀(i:Nat) (x:IV) (v:Value),cs[i]? =some x→vs[i]? =some v→VRel M x v:=by
 cases h with
 | agg cs vs hl h1 r=>exact⟨vs,rfl,hl,h1,r⟩
theorem VRel.tup_inv {M:Mem} {cs:List IV} {u:Value} (h:VRel M (.tup cs) u):
  ∃vs:List Value,u= .tuple ⟨vs⟩∧vs.length=cs.length∧ ∀(i:Nat) (x:IV) (v:Value),cs[i]? =some x→vs[i]? =some v→VRel M x v:=by
 cases h with
 | tup cs vs hl r=>exact⟨vs,rfl,hl,r⟩
/-! ### load -/
section
variable {P:Program} {w:World}
theorem qbj (c o i:Nat):(⟨c,o,none⟩:Addr).add i=⟨c,o+i,none⟩:=by
 unfold Addr.add
 split
 ·rename_i h;subst h;rfl
 ·rfl
theorem load_row {M:Mem} {t:TypeId} {row:List IV} {x:IV} (h:qea P t row=some x) (c o:Nat)
  (hc: ∀(j:Nat) (y:IV),row[j]? =some y→ ∃v,M.w.cell? ⟨c,o+j,none⟩=some v∧v.oneCell'=true∧VRel M y v):
  ∃v,(loadVar t ⟨c,o,none⟩).run P M.w= .ok v M.w∧VRel M x v:=by
 unfold qea at h
 split at h
 ·rename_i ha
  split at h
  ·rename_i n hn
   split at h
   ·rename_i hle
    simp only [Option.some.injEq] at h
    subst h
    have hex: ∀j,j < n→ ∃v,M.w.cell? ⟨c,o+j,none⟩=some v∧v.oneCell'=true∧ ∀y,row[j]? =some y→VRel M y v:=by
     intro j hj
     have hjl:j < row.length:=by omega
     obtain⟨v,h1,h2,h3⟩:=hc j row[j] (List.getElem?_eq_getElem hjl)
     refine⟨v,h1,h2,fun y hy=>?_⟩
     rw [List.getElem?_eq_getElem hjl] at hy
     simp at hy;subst hy;exact h3
    have hf: ∃f:Nat→Value,∀j,j < n→M.w.cell? ⟨c,o+j,none⟩=some (f j)∧(f j).oneCell'=true∧ ∀y,row[j]? =some y→VRel M y (f j):=by
     refine⟨fun j=>if hj:j < n then Classical.choose (hex j hj) else undef,fun j hj=>?_⟩
     have:=Classical.choose_spec (hex j hj)
     simp only [hj,dif_pos]
     exact this
    obtain⟨f,hf⟩:=hf
    have hl:=run_loadCells (P:=P) M.w ⟨c,o,none⟩ n f (fun j hj=>by rw [qbj];exact(hf j hj).1)
    refine⟨.agg ((List.range n).map f).toArray,?_,?_⟩
    ·unfold loadVar
     rw [Sem.run_bind,qcp ha]
     simp only [Result.andThen_ok,if_true,Sem.run_bind,qaC hn,hl,Sem.run_pure]
    ·refine .agg _ _ (by simp;omega) ?_ ?_
     ·intro v hv
      simp only [List.mem_map,List.mem_range] at hv
      obtain⟨j,hj,rfl⟩:=hv
      exact(hf j hj).2.1
     ·intro i y v hy hv
      rw [List.getElem?_take] at hy
      split at hy
      ·rename_i hin
       simp only [List.getElem?_map,List.getElem?_range hin,Option.map_some,Option.some.injEq] at hv
       subst hv
       exact(hf i hin).2.2 y hy
      ·cases hy
   ·cases h
  ·cases h
 ·rename_i ha
  obtain⟨v,h1,h2,h3⟩:=hc 0 x (by rw [←List.head?_eq_getElem?];exact h)
  refine⟨v,?_,h3⟩
  unfold loadVar
  rw [Sem.run_bind,qcp ha]
  simp only [Nat.add_zero] at h1
  simp [h1]
 ·cases h
theorem BRel.row {M:Mem} {b sz g:Nat} {rows:List (List IV)} (h:BRel M b (.arr sz g rows)) {r:Nat} {row:List IV} (hr:rows[r]? =some row)
  {c o n:Nat} (hc:M.β b=some (c,o,n)) (j:Nat) (y:IV) (hy:row[j]? =some y):
  ∃v,M.w.cell? ⟨c,o+(r * sz+j),none⟩=some v∧v.oneCell'=true∧VRel M y v:=by
 obtain⟨cs,ty,q1,_,_,_,q5⟩:=h.2.2 c o n hc
 obtain⟨v,v1,v2,v3⟩:=q5 r row j y hr hy
 exact⟨v,by rw [cell_of_row M.w c _ cs ty (0,0) q1];exact v1,v2,v3⟩
end
end Go.Idl
/-
 The operations of the ideal machine, one by one.
-/
namespace Go.Idl
variable {P:Program} {o:Oper} {ρ:Operand→Option IV} {G:Nat→Option IBlk}
abbrev FR.ok (fr:FR) (P:Program) (o:Oper) (ρ:Operand→Option IV):Prop:=qbh P o ρ fr.R fr.F fr.x fr.W
/-! ### what a value is -/
theorem VRel.ptr_inv {M:Mem} {b g r j:Nat} {v:Value} (h:VRel M (.ptr b g r j) v) {blk:IBlk} (hb:M.H.G b=some blk) (hg:g=blk.gen):
  ptrOk (M.β b) blk.sz r j v:=by
 cases h with
 | ptr b g r j v hA hv h=>exact(h blk hb).2 hg
theorem VRel.ref_inv {M:Mem} {b g off len:Nat} {v:Value} (h:VRel M (.ref b g off len) v) {blk:IBlk} (hb:M.H.G b=some blk) (hg:g=blk.gen):
  qdl (M.β b) blk.sz blk.len off len v:=by
 cases h with
 | ref b g off len v hA hv h=>exact(h blk hb).2 hg
theorem VRel.rp_inv {M:Mem} {cells:List PV} {v:Value} (h:VRel M (.p (.rp cells)) v):
  ∃c o,v= .pointer (some ⟨c,o,none⟩)∧c < M.w.heap.size∧ ¬M.own c∧
   ∀(j:Nat) (x:PV),cells[j]? =some x→ ∃u,M.w.cell? ⟨c,o+j,none⟩=some u∧u.oneCell'=true∧PRel M.w M.own x u:=by
 cases h with
 | p x v h=>
   cases h with
   | rp cells c o f ha hc hr=>exact⟨c,o,rfl,ha.1,ha.2,fun j x hj=>⟨f j,(hc j x hj).1,(hc j x hj).2,hr j x hj⟩⟩
theorem VRel.imm_inv {M:Mem} {sz:Nat} {rows:List (List PV)} {v:Value} (h:VRel M (.p (.imm sz rows)) v):
  ∃a cap c o,v= .slice a rows.length cap∧rows.length≤cap∧cap≤maxLen∧(0 < rows.length→a=some ⟨c,o,none⟩∧c < M.w.heap.size∧ ¬M.own c)∧
   (∀(i:Nat) (row:List PV),rows[i]? =some row→row.length=sz)∧
   ∀(i:Nat) (row:List PV) (j:Nat) (x:PV),rows[i]? =some row→row[j]? =some x→
    ∃u,M.w.cell? ⟨c,o+(i * sz+j),none⟩=some u∧u.oneCell'=true∧PRel M.w M.own x u:=by
 cases h with
 | p x v h=>
   cases h with
   | imm sz rows a cap c o f hl hm ha hs hc hr=>
     exact⟨a,cap,c,o,rfl,hl,hm,ha,hs,fun i row j x hi hj=>⟨f i j,(hc i row j x hi hj).1,(hc i row j x hi hj).2,hr i row j x hi hj⟩⟩
theorem PRel.mk_imm {w:World} {own:Nat→Prop} {rows:List (List PV)} {a:Option Addr} {cap sz c o:Nat}
  (hl:rows.length≤cap) (hm:cap≤maxLen) (ha:0 < rows.length→a=some ⟨c,o,none⟩∧c < w.heap.size∧ ¬own c)
  (hs: ∀(i:Nat) (row:List PV),rows[i]? =some row→row.length=sz)
  (hr: ∀(i:Nat) (row:List PV) (j:Nat) (x:PV),rows[i]? =some row→row[j]? =some x→
   ∃u,w.cell? ⟨c,o+(i * sz+j),none⟩=some u∧u.oneCell'=true∧PRel w own x u):
  PRel w own (.imm sz rows) (.slice a rows.length cap):=by
 have hf: ∀i j,∃u,∀row x,rows[i]? =some row→row[j]? =some x→w.cell? ⟨c,o+(i * sz+j),none⟩=some u∧u.oneCell'=true∧PRel w own x u:=by
  intro i j
  cases hi:rows[i]? with
  | none=>exact⟨undef,by simp⟩
  | some row=>
    cases hj:row[j]? with
    | none=>exact⟨undef,by rintro row x h1 h2;cases h1;rw [hj] at h2;cases h2⟩
    | some x=>
      obtain⟨u,h⟩:=hr i row j x hi hj
      exact⟨u,by rintro row x h1 h2;cases h1;rw [hj] at h2;cases h2;exact h⟩
 exact .imm sz rows a cap c o (fun i j=>Classical.choose (hf i j)) hl hm ha hs
  (fun i row j x hi hj=>⟨(Classical.choose_spec (hf i j) row x hi hj).1,(Classical.choose_spec (hf i j) row x hi hj).2.1⟩)
  (fun i row j x hi hj=>(Classical.choose_spec (hf i j) row x hi hj).2.2)
theorem PRel.mk_rp {w:World} {own:Nat→Prop} {cells:List PV} {c o:Nat} (ha:c < w.heap.size∧ ¬own c)
  (hr: ∀(j:Nat) (x:PV),cells[j]? =some x→ ∃u,w.cell? ⟨c,o+j,none⟩=some u∧u.oneCell'=true∧PRel w own x u):
  PRel w own (.rp cells) (.pointer (some ⟨c,o,none⟩)):=by
 have hf: ∀j,∃u,∀x,cells[j]? =some x→w.cell? ⟨c,o+j,none⟩=some u∧u.oneCell'=true∧PRel w own x u:=by
  intro j
  cases hj:cells[j]? with
  | none=>exact⟨undef,by simp⟩
  | some x=>
    obtain⟨u,h⟩:=hr j x hj
    exact⟨u,by rintro x h2;cases h2;exact h⟩
 exact .rp cells c o (fun j=>Classical.choose (hf j)) ha
  (fun j x hj=>⟨(Classical.choose_spec (hf j) x hj).1,(Classical.choose_spec (hf j) x hj).2.1⟩) (fun j x hj=>(Classical.choose_spec (hf j) x hj).2.2)
/-! ### move, assign -/
theorem qps {y:Operand} {z:IV} (ho:o.op= .move y∨o.op= .assign y) (hz:ρ y=some z):qbh P o ρ [] [] z []:=by
 refine .read fun M a _ _ hr=>⟨a.eval y,?_,?_⟩
 ·rcases ho with ho | ho<;>simp [execOp,ho]
 ·exact hr y (by rcases ho with ho | ho<;>simp [ho,Op.operands]) z hz
/-! ### pick -/
theorem f_pick {c x y:Operand} {t:Bool} {u v:IV} (ho:o.op= .pick c x y) (hc:ρ c=some (scb t)) (hx:ρ x=some u) (hy:ρ y=some v):
  qbh P o ρ [] [] (if t then u else v) []:=by
 refine .read fun M a _ _ hr=>⟨if t then a.eval x else a.eval y,?_,?_⟩
 ·have:=(hr c (by simp [ho,Op.operands]) _ hc).sc_inv
  simp [execOp,ho,this,asBool]
 ·cases t
  ·exact hr y (by simp [ho,Op.operands]) v hy
  ·exact hr x (by simp [ho,Op.operands]) u hx
/-! ### load -/
def qgc (P:Program) (G:Nat→Option IBlk) (t:TypeId):IV→Option FR
 | .ptr b g r j=>match G b with
   | some (.arr sz g' rows)=>if g=g' then match rows[r]? with
     | some row=>(qea P t (row.drop j)).map fun x=> {x,R:= [(b, .arr sz g' rows)]}
     | none=>none
     else none
   | _=>none
 | .p (.rp cells)=>(qea P t (cells.map .p)).map fun x=> {x}
 | _=>none
theorem f_load {t:TypeId} {y:Operand} {z:IV} {fr:FR} (ho:o.op= .load t y) (hz:ρ y=some z) (h:qgc P G t z=some fr):fr.ok P o ρ:=by
 unfold qgc at h
 split at h
 ·rename_i b g r j
  split at h
  ·rename_i sz g' rows hb
   split at h
   ·rename_i hg
    subst hg
    split at h
    ·rename_i row hrow
     cases hl:qea P t (row.drop j) with
     | none=>simp [hl] at h
     | some x=>
       simp only [hl,Option.map_some,Option.some.injEq] at h
       subst h
       refine .read fun M a hM hR hr=>?_
       have hb':M.H.G b=some (.arr sz g rows):=hR (b,_) (by simp)
       obtain⟨c,o',n,hc,hv⟩:=(hr y (by simp [ho,Op.operands]) _ hz).ptr_inv hb' rfl
       obtain⟨v,h1,h2⟩:=load_row (P:=P) (M:=M) hl c (o'+(r * sz+j)) (fun k y' hk=>by
        rw [List.getElem?_drop] at hk
        obtain⟨u,u1,u2,u3⟩:=(hM.blk b _ hb').row hrow hc (j+k) y' hk
        exact⟨u,by rw [←u1];congr 2;omega,u2,u3⟩)
       refine⟨v,?_,h2⟩
       simp only [IBlk.sz] at hv
       simp [execOp,ho,Instr.loadAt,hv,Instr.sureAddr,h1]
    ·cases h
   ·cases h
  ·cases h
 ·rename_i cells
  cases hl:qea P t (cells.map .p) with
  | none=>simp [hl] at h
  | some x=>
    simp only [hl,Option.map_some,Option.some.injEq] at h
    subst h
    refine .read fun M a hM hR hr=>?_
    obtain⟨c,o',hv,h1,h2,h3⟩:=(hr y (by simp [ho,Op.operands]) _ hz).rp_inv
    obtain⟨v,g1,g2⟩:=load_row (P:=P) (M:=M) hl c o' (fun k y' hk=>by
     rw [List.getElem?_map] at hk
     cases hx:cells[k]? with
     | none=>simp [hx] at hk
     | some x=>
       simp [hx] at hk
       subst hk
       obtain⟨u,u1,u2,u3⟩:=h3 k x hx
       exact⟨u,u1,u2, .p _ _ u3⟩)
    refine⟨v,?_,g2⟩
    simp [execOp,ho,Instr.loadAt,hv,Instr.sureAddr,g1]
 ·cases h
/-! ### fieldAddr, indexAddr -/
def qew (P:Program) (s:TypeId) (f:Nat):IV→Option FR
 | .ptr b g r j=>match tfo P s f with
   | some (off,ft)=>match tsz P ft with
     | some (_+1)=>some {x:= .ptr b g r (j+off)}
     | _=>none
   | none=>none
 | .p (.rp cells)=>match tfo P s f with
   | some (off,ft)=>match tsz P ft with
     | some (_+1)=>some {x:= .p (.rp (cells.drop off))}
     | _=>none
   | none=>none
 | _=>none
theorem qgK {s ft:TypeId} {f off n:Nat} (hf:tfo P s f=some (off,ft)) (hn:tsz P ft=some (n+1)) (c o':Nat) (w:World):
  (Instr.fieldAt s (.pointer (some ⟨c,o',none⟩)) f).run P w= .ok (.pointer (some ⟨c,o'+off,none⟩)) w:=by
 obtain⟨fs,x,hu,hx,rfl,rfl⟩:=und_tfo hf
 simp only [Instr.fieldAt,Sem.run_bind,run_underlying hu,Result.andThen_ok,hx,Instr.sureAddr,Sem.run_pure,fieldPlace,qaC hn]
 simp [qbj]
theorem VRel.ptr_any {M:Mem} {b g r j:Nat} {v:Value} (h:VRel M (.ptr b g r j) v): ∃c o',v= .pointer (some ⟨c,o',none⟩):=by
 cases h with
 | ptr b g r j v hA hv h=>exact hv
theorem VRel.ref_any {M:Mem} {b g off len:Nat} {v:Value} (h:VRel M (.ref b g off len) v): ∃a cap,v= .slice a len cap:=by
 cases h with
 | ref b g off len v hA hv h=>exact hv
theorem VRel.ptr_add {M:Mem} {b g r j c o':Nat} (h:VRel M (.ptr b g r j) (.pointer (some ⟨c,o',none⟩))) (k:Nat):
  VRel M (.ptr b g r (j+k)) (.pointer (some ⟨c,o'+k,none⟩)):=by
 cases h with
 | ptr b g r j v hA hv h=>
   refine .ptr b g r (j+k) _ hA ⟨_,_,rfl⟩ fun blk hb=>?_
   obtain⟨h1,h2⟩:=h blk hb
   refine⟨h1,fun hg=>?_⟩
   obtain⟨c',o,n,hβ,hv⟩:=h2 hg
   simp only [Value.pointer.injEq,Option.some.injEq,Addr.mk.injEq] at hv
   obtain⟨rfl,rfl,_⟩:=hv
   exact⟨c,o,n,hβ,by congr 3;omega⟩
theorem qrx {s:TypeId} {f:Nat} {y:Operand} {z:IV} {fr:FR} (ho:o.op= .fieldAddr s y f) (hz:ρ y=some z) (h:qew P s f z=some fr):fr.ok P o ρ:=by
 unfold qew at h
 split at h
 ·rename_i b g r j
  split at h
  ·rename_i off ft hf
   split at h
   ·rename_i n hn
    simp only [Option.some.injEq] at h
    subst h
    refine .read fun M a hM hR hr=>?_
    have hv:=hr y (by simp [ho,Op.operands]) _ hz
    obtain⟨c,o',e⟩:=hv.ptr_any
    rw [e] at hv
    exact⟨_,by simp [execOp,ho,e,qgK hf hn],hv.ptr_add off⟩
   ·cases h
  ·cases h
 ·rename_i cells
  split at h
  ·rename_i off ft hf
   split at h
   ·rename_i n hn
    simp only [Option.some.injEq] at h
    subst h
    refine .read fun M a hM hR hr=>?_
    obtain⟨c,o',e,h1,h2,h3⟩:=(hr y (by simp [ho,Op.operands]) _ hz).rp_inv
    refine⟨.pointer (some ⟨c,o'+off,none⟩),by simp [execOp,ho,e,qgK hf hn], .p _ _ (.mk_rp ⟨h1,h2⟩ fun j x hj=>?_)⟩
    rw [List.getElem?_drop] at hj
    obtain⟨u,u1,u2,u3⟩:=h3 (off+j) x hj
    exact⟨u,by rw [←u1];congr 2;omega,u2,u3⟩
   ·cases h
  ·cases h
 ·cases h
def idx (i:IV) (len:Nat):Option Nat:=
 match i with
 | .p (.sc (.int _ n))=>if 0≤n∧n.toNat < len then some n.toNat else none
 | _=>none
theorem qdI {M:Mem} {i:IV} {len k:Nat} {v:Value} (h:idx i len=some k) (hv:VRel M i v): ∃kd n,v= .int kd n∧0≤n∧n < len∧n.toNat=k∧k < len:=by
 unfold idx at h
 split at h
 ·rename_i kd n
  split at h
  ·rename_i hc
   simp only [Option.some.injEq] at h
   exact⟨kd,n,hv.sc_inv,hc.1,by omega,h,by omega⟩
  ·cases h
 ·cases h
def fiaddr (P:Program) (G:Nat→Option IBlk) (t:TypeId) (x i:IV):Option FR:=
 match x with
 | .p (.imm sz rows)=>match tel P t with
   | some e=>match tsz P e,idx i rows.length with
     | some n,some k=>match rows[k]? with
       | some row=>if n=sz then some {x:= .p (.rp row)} else none
       | none=>none
     | _,_=>none
   | none=>none
 | .ref b g off len=>match tel P t with
   | some e=>match tsz P e,idx i len,G b with
     | some n,some k,some (.arr sz g' rows)=>if g=g'∧n=sz then some {x:= .ptr b g (off+k) 0,R:= [(b, .arr sz g' rows)]} else none
     | _,_,_=>none
   | none=>none
 | .ptr b g r j=>match tar P t with
   | some (len,e)=>match tsz P e,idx i len with
     | some n,some k=>some {x:= .ptr b g r (j+k * n)}
     | _,_=>none
   | none=>none
 | .p (.rp cells)=>match tar P t with
   | some (len,e)=>match tsz P e,idx i len with
     | some n,some k=>some {x:= .p (.rp (cells.drop (k * n)))}
     | _,_=>none
   | none=>none
 | _=>none
theorem qrz {t:TypeId} {x i:Operand} {zx zi:IV} {fr:FR} (ho:o.op= .indexAddr t x i) (hx:ρ x=some zx) (hi:ρ i=some zi)
  (h:fiaddr P G t zx zi=some fr):fr.ok P o ρ:=by
 unfold fiaddr at h
 split at h
 ·rename_i sz rows
  split at h
  ·rename_i e he
   split at h
   ·rename_i n k hn hk
    split at h
    ·rename_i row hrow
     split at h
     ·rename_i hl
      simp only [Option.some.injEq] at h
      subst h
      refine .read fun M a hM hR hr=>?_
      obtain⟨a0,cap,c,o',e1,h1,h2,h3,h4,h5⟩:=(hr x (by simp [ho,Op.operands]) _ hx).imm_inv
      obtain⟨kd,m,e2,h6,h7,h8,h9⟩:=qdI hk (hr i (by simp [ho,Op.operands]) _ hi)
      obtain⟨e3,h10,h11⟩:=h3 (by omega)
      subst e3
      subst hl
      refine⟨.pointer (some ⟨c,o'+k * n,none⟩),?_, .p _ _ (.mk_rp ⟨h10,h11⟩ fun j y hj=>?_)⟩
      ·have hu:=und_tel he
       simp only [execOp,ho,e1,e2]
       simp only [Instr.indexAt,asIntOf,Sem.run_bind,Sem.run_pure,Result.andThen_ok,run_underlying hu,h6,h7,and_self,if_true,qaC hn,h8,qbj]
      ·obtain⟨u,u1,u2,u3⟩:=h5 k row j y hrow hj
       exact⟨u,by rw [←u1];congr 2;omega,u2,u3⟩
     ·cases h
    ·cases h
   ·cases h
  ·cases h
 ·rename_i b g off len
  split at h
  ·rename_i e he
   split at h
   ·rename_i n k sz g' rows hn hk hb
    split at h
    ·rename_i hg
     obtain⟨rfl,rfl⟩:=hg
     simp only [Option.some.injEq] at h
     subst h
     refine .read fun M a hM hR hr=>?_
     have hb':M.H.G b=some (.arr n g rows):=hR (b,_) (by simp)
     have hvx:=hr x (by simp [ho,Op.operands]) _ hx
     obtain⟨a0,cap,e1,h1,h2,h3,h4⟩:=hvx.ref_inv hb' rfl
     obtain⟨kd,m,e2,h6,h7,h8,h9⟩:=qdI hk (hr i (by simp [ho,Op.operands]) _ hi)
     rcases h4 with h4 | ⟨c,o',n',hβ,e3,h5⟩
     ·omega
     ·subst e3
      simp only [IBlk.sz] at e1
      refine⟨.pointer (some ⟨c,o'+off * n+k * n,none⟩),?_,?_⟩
      ·have hu:=und_tel he
       simp only [execOp,ho,e1,e2]
       simp only [Instr.indexAt,asIntOf,Sem.run_bind,Sem.run_pure,Result.andThen_ok,run_underlying hu,h6,h7,and_self,if_true,qaC hn,h8,qbj]
      ·have hA:M.H.A b:=hM.dom b _ hb'
       refine .ptr b g (off+k) 0 _ hA ⟨_,_,rfl⟩ fun blk hblk=>?_
       rw [hb'] at hblk
       cases hblk
       refine⟨Nat.le_refl _,fun _=>⟨c,o',n',hβ,?_⟩⟩
       simp only [IBlk.sz]
       congr 3
       rw [Nat.add_mul];omega
    ·cases h
   ·cases h
  ·cases h
 ·rename_i b g r j
  split at h
  ·rename_i len e he
   split at h
   ·rename_i n k hn hk
    simp only [Option.some.injEq] at h
    subst h
    refine .read fun M a hM hR hr=>?_
    have hv:=hr x (by simp [ho,Op.operands]) _ hx
    obtain⟨c,o',e1⟩:=hv.ptr_any
    rw [e1] at hv
    obtain⟨kd,m,e2,h6,h7,h8,h9⟩:=qdI hk (hr i (by simp [ho,Op.operands]) _ hi)
    refine⟨_,?_,hv.ptr_add (k * n)⟩
    have hu:=und_tar he
    simp only [execOp,ho,e1,e2]
    simp only [Instr.indexAt,Instr.sureAddr,asIntOf,Sem.run_bind,Sem.run_pure,Result.andThen_ok,run_underlying hu,h6,h7,and_self,if_true,qaC hn,h8,qbj]
   ·cases h
  ·cases h
 ·rename_i cells
  split at h
  ·rename_i len e he
   split at h
   ·rename_i n k hn hk
    simp only [Option.some.injEq] at h
    subst h
    refine .read fun M a hM hR hr=>?_
    obtain⟨c,o',e1,h1,h2,h3⟩:=(hr x (by simp [ho,Op.operands]) _ hx).rp_inv
    obtain⟨kd,m,e2,h6,h7,h8,h9⟩:=qdI hk (hr i (by simp [ho,Op.operands]) _ hi)
    refine⟨.pointer (some ⟨c,o'+k * n,none⟩),?_, .p _ _ (.mk_rp ⟨h1,h2⟩ fun j y hj=>?_)⟩
    ·have hu:=und_tar he
     simp only [execOp,ho,e1,e2]
     simp only [Instr.indexAt,Instr.sureAddr,asIntOf,Sem.run_bind,Sem.run_pure,Result.andThen_ok,run_underlying hu,h6,h7,and_self,if_true,qaC hn,h8,qbj]
    ·rw [List.getElem?_drop] at hj
     obtain⟨u,u1,u2,u3⟩:=h3 _ y hj
     exact⟨u,by rw [←u1];congr 2;omega,u2,u3⟩
   ·cases h
  ·cases h
 ·cases h
end Go.Idl
/-
 Operators, conversions, parts and builds of values.
-/
namespace Go.Idl
variable {P:Program} {o:Oper} {ρ:Operand→Option IV} {G:Nat→Option IBlk}
/-! ### operators -/
def ibin:BinOp→IntKind→Int→Int→Option Value
 | .add,k,a,b=>some (.int k (k.wrap (a+b)))
 | .sub,k,a,b=>some (.int k (k.wrap (a - b)))
 | .mul,k,a,b=>some (.int k (k.wrap (a * b)))
 | .quo,k,a,b=>if b=0 then none else some (.int k (k.wrap (a.tdiv b)))
 | .rem,k,a,b=>if b=0 then none else some (.int k (a.tmod b))
 | .and,k,a,b=>some (.int k (bits .and k a b))
 | .or,k,a,b=>some (.int k (bits .or k a b))
 | .xor,k,a,b=>some (.int k (bits .xor k a b))
 | .andNot,k,a,b=>some (.int k (bits .andNot k a b))
 | .eql,_,a,b=>some (.bool (a==b))
 | .neq,_,a,b=>some (.bool (a != b))
 | .lss,_,a,b=>some (.bool (decide (a < b)))
 | .leq,_,a,b=>some (.bool (decide (a≤b)))
 | .gtr,_,a,b=>some (.bool (decide (b < a)))
 | .geq,_,a,b=>some (.bool (decide (b≤a)))
 | _,_,_,_=>none
def qke:BinOp→IntKind→Int→Int→Option Value
 | .shl,k,a,b=>if b < 0 then none else some (.int k (k.wrap (a * 2 ^ (min b.toNat k.bits))))
 | .shr,k,a,b=>if b < 0 then none else some (.int k (a.fdiv (2 ^ (min b.toNat k.bits))))
 | _,_,_,_=>none
def qlZ:BinOp→ByteArray→ByteArray→Option Value
 | .add,a,b=>if a.size+b.size≤9223372036854775807 then some (.string (a++b)) else none
 | .eql,a,b=>some (.bool (a.toList==b.toList))
 | .neq,a,b=>some (.bool !(a.toList==b.toList))
 | .lss,a,b=>some (.bool (Op.bytesLess a.toList b.toList))
 | .leq,a,b=>some (.bool (Op.bytesLess a.toList b.toList || a.toList==b.toList))
 | .gtr,a,b=>some (.bool !(Op.bytesLess a.toList b.toList || a.toList==b.toList))
 | .geq,a,b=>some (.bool !(Op.bytesLess a.toList b.toList))
 | _,_,_=>none
def qhN:BinOp→FloatKind→Nat→Nat→Option Value
 | .add,k,a,b=>(k.format.add a b).map fun r=> .float k r
 | .sub,k,a,b=>(k.format.sub a b).map fun r=> .float k r
 | .mul,k,a,b=>(k.format.mul a b).map fun r=> .float k r
 | .quo,k,a,b=>(k.format.div a b).map fun r=> .float k r
 | .eql,k,a,b=>some (.bool (k.format.order a b==some .eq))
 | .neq,k,a,b=>some (.bool (k.format.order a b != some .eq))
 | .lss,k,a,b=>some (.bool (k.format.order a b==some .lt))
 | .leq,k,a,b=>some (.bool (k.format.order a b==some .lt || k.format.order a b==some .eq))
 | .gtr,k,a,b=>some (.bool (k.format.order a b==some .gt))
 | .geq,k,a,b=>some (.bool (k.format.order a b==some .gt || k.format.order a b==some .eq))
 | _,_,_,_=>none
def sbin (P:Program) (op:BinOp) (t:TypeId):Value→Value→Option Value
 | .int k a, .int k' b=>
   match op with
   | .shl | .shr=>qke op k a b
   | _=>if k=k' then ibin op k a b else none
 | .string a, .string b=>qlZ op a b
 | .float k a, .float k' b=>if k=k' then qhN op k a b else none
 | .bool a, .bool b=>match op,tkd P t with
   | .eql,some .bool=>some (.bool (a==b))
   | .neq,some .bool=>some (.bool !(a==b))
   | _,_=>none
 | _,_=>none
theorem qf7 {t:TypeId} (h:tkd P t=some .bool):P.underlying t=some .bool:=by
 unfold tkd at h
 cases hu:P.underlying t with
 | none=>simp [hu] at h
 | some d=>cases d<;>simp_all
theorem eqGuard_key (t:TypeId) (x y:Operand) (a b:Value) (w:World) (m:Bool):
  ¬(a= .nilIface∧b= .nilIface)→(∀xs ys,¬(a= .agg xs∧b= .agg ys))→((if(!m)=true then pure () else match a,b with
   | .nilIface, .nilIface=>
     if(x matches .const _) || (y matches .const _) then pure () else do
      if ←Op.eqGuardIn Op.maxDepth t a b then unsupported (.noEntry "binop/eql: two nil values of an interface type with methods, neither of them the literal nil") else pure ()
   | .agg _, .agg _=>do
     if !(←program).eqGuardType (←program).depth t then pure () else do
      if ←Op.eqGuardIn Op.maxDepth t a b then unsupported (.noEntry "binop/eql: two nil values of an interface type with methods, in a part of a struct or an array") else pure ()
   | _,_=>pure ():Sem Unit)).run P w= .ok () w:=by
 intro h h2
 cases m
 ·rfl
 ·rw [if_neg (by simp)]
  split
  ·exact absurd ⟨rfl,rfl⟩ h
  ·exact absurd ⟨rfl,rfl⟩ (h2 _ _)
  ·rfl
theorem qaW (op:BinOp) (t:TypeId) (x y:Operand) {a b:Value} (h: ¬(a= .nilIface∧b= .nilIface)) (h2: ∀xs ys,¬(a= .agg xs∧b= .agg ys)) (w:World):
  (eqGuard op t x y a b).run P w= .ok () w:=by
 cases op<;>first | exact eqGuard_key t x y a b w false h h2 | exact eqGuard_key t x y a b w true h h2
theorem run_sbin {op:BinOp} {t:TypeId} {a b v:Value} (h:sbin P op t a b=some v) (x y:Operand) (w:World):
  (do eqGuard op t x y a b;binOp op t a b:Sem Value).run P w= .ok v w:=by
 unfold sbin at h
 split at h
 ·rename_i k a k' b
  rw [Sem.run_bind,qaW op t x y (by simp) (by simp) w,Result.andThen_ok]
  split at h
  ·unfold qke at h
   simp only at h
   split at h
   ·cases h
   ·rename_i hb;simp only [Option.some.injEq] at h;subst h;simp [binOp,Op.shift,hb]
  ·unfold qke at h
   simp only at h
   split at h
   ·cases h
   ·rename_i hb;simp only [Option.some.injEq] at h;subst h;simp [binOp,Op.shift,hb]
  ·split at h
   ·rename_i hk
    subst hk
    cases op<;>simp only [ibin,Option.some.injEq,reduceCtorEq] at h
    case quo=>
     split at h
     ·cases h
     ·rename_i hb;simp only [Option.some.injEq] at h;subst h;simp [binOp,Op.intDiv,hb]
    case rem=>
     split at h
     ·cases h
     ·rename_i hb;simp only [Option.some.injEq] at h;subst h;simp [binOp,Op.intDiv,hb]
    all_goals(subst h;simp [binOp,Op.intArith,Op.intBits,Op.intCmp,bits])
   ·cases h
 ·rename_i a b
  rw [Sem.run_bind,qaW op t x y (by simp) (by simp) w,Result.andThen_ok]
  cases op<;>simp only [qlZ,Option.some.injEq,reduceCtorEq] at h
  case add=>
   split at h
   ·rename_i hb
    simp only [Option.some.injEq] at h;subst h
    have hx: ¬(((a.size+b.size:Nat):Int) > IntKind.i64.max):=by
     have:IntKind.i64.max=9223372036854775807:=by decide
     rw [this];omega
    simp only [binOp,Op.stringOp,hx,if_false,Sem.run_pure]
   ·cases h
  all_goals(subst h;simp [binOp,Op.stringOp])
 ·rename_i k a k' b
  rw [Sem.run_bind,qaW op t x y (by simp) (by simp) w,Result.andThen_ok]
  split at h
  ·rename_i hk
   subst hk
   cases op<;>simp only [qhN,Option.some.injEq,reduceCtorEq,Option.map_eq_some_iff] at h
   case add=>obtain⟨r,hr,rfl⟩:=h;simp [binOp,Op.floatArith,hr]
   case sub=>obtain⟨r,hr,rfl⟩:=h;simp [binOp,Op.floatArith,hr]
   case mul=>obtain⟨r,hr,rfl⟩:=h;simp [binOp,Op.floatArith,hr]
   case quo=>obtain⟨r,hr,rfl⟩:=h;simp [binOp,Op.floatArith,hr]
   all_goals(subst h;simp [binOp,Op.floatCmp])
  ·cases h
 ·rename_i a b
  rw [Sem.run_bind,qaW op t x y (by simp) (by simp) w,Result.andThen_ok]
  split at h
  ·rename_i ht
   simp only [Option.some.injEq] at h;subst h
   simp only [binOp]
   simp [Op.equal,Op.maxDepth,run_equalIn_bool' w 9999 t a b (qf7 ht)]
  ·rename_i ht
   simp only [Option.some.injEq] at h;subst h
   simp only [binOp]
   simp [Op.equal,Op.maxDepth,run_equalIn_bool' w 9999 t a b (qf7 ht)]
  ·cases h
 ·cases h
def fbin (P:Program) (op:BinOp) (t:TypeId):IV→IV→Option FR
 | .p (.sc a), .p (.sc b)=>(sbin P op t a b).map fun v=> {x:= .p (.sc v)}
 | _,_=>none
theorem f_bin {op:BinOp} {t t':TypeId} {x y:Operand} {zx zy:IV} {fr:FR} (ho:o.op= .binOp op t x y t') (hx:ρ x=some zx) (hy:ρ y=some zy)
  (h:fbin P op t zx zy=some fr):fr.ok P o ρ:=by
 unfold fbin at h
 split at h
 ·rename_i a b
  cases hs:sbin P op t a b with
  | none=>simp [hs] at h
  | some v=>
    simp only [hs,Option.map_some,Option.some.injEq] at h
    subst h
    refine .read fun M ac _ _ hr=>⟨v,?_, .sc M v⟩
    have e1:=(hr x (by simp [ho,Op.operands]) _ hx).sc_inv
    have e2:=(hr y (by simp [ho,Op.operands]) _ hy).sc_inv
    have hrun:=run_sbin hs x y M.w
    simp only [execOp,ho,e1,e2]
    rw [Sem.run_bind,hrun]
    rfl
 ·cases h
def sun:UnOp→Value→Option Value
 | .not, .bool b=>some (.bool !b)
 | .neg, .int k n=>some (.int k (k.wrap (0 - n)))
 | .xor, .int k n=>some (.int k (bits .xor k (if k.signed then -1 else k.max) n))
 | .neg, .float k b=>some (.float k (Op.negFloat k b))
 | _,_=>none
def fun1 (op:UnOp):IV→Option FR
 | .p (.sc a)=>(sun op a).map fun v=> {x:= .p (.sc v)}
 | _=>none
theorem f_un {op:UnOp} {t:TypeId} {x:Operand} {zx:IV} {fr:FR} (ho:o.op= .unOp op t x) (hx:ρ x=some zx) (h:fun1 op zx=some fr):fr.ok P o ρ:=by
 unfold fun1 at h
 split at h
 ·rename_i a
  cases hs:sun op a with
  | none=>simp [hs] at h
  | some v=>
    simp only [hs,Option.map_some,Option.some.injEq] at h
    subst h
    refine .read fun M ac _ _ hr=>⟨v,?_, .sc M v⟩
    have e1:=(hr x (by simp [ho,Op.operands]) _ hx).sc_inv
    simp only [execOp,ho,e1]
    unfold sun at hs
    split at hs<;>simp only [Option.some.injEq,reduceCtorEq] at hs<;>subst hs<;>simp [Op.unary,Op.intArith,Op.intBits,bits]
 ·cases h
/-! ### conversions -/
def scv (P:Program) (src dst:TypeId):Value→Option Value
 | .int _ n=>match tkd P src,tkd P dst with
   | some _,some (.int k)=>some (.int k (k.wrap n))
   | some _,some (.float k)=>some (.float k (k.nearest n))
   | _,_=>none
 | .float s b=>match tkd P src,tkd P dst with
   | some _,some (.int k)=>match(s.decode b).toInt .zero with
     | some n=>if k.min≤n∧n≤k.max then some (.int k n) else none
     | none=>none
   | _,_=>none
 | .string s=>match tkd P src,tkd P dst with
   | some _,some .string=>some (.string s)
   | _,_=>none
 | _=>none
theorem qaZ {t:TypeId} {k:TK} (h:tkd P t=some k): ∃d,P.underlying t=some d∧(match k with
  | .bool=>d= .bool | .int k=>d= .int k | .float k=>d= .float k | .string=>d= .string | .slice e=>d= .slice e | .map a b=>d= .map a b | .iface=> ∃ms,d= .interface ms | .other=>True):=by
 unfold tkd at h
 cases hu:P.underlying t with
 | none=>simp [hu] at h
 | some d=>
   refine⟨d,rfl,?_⟩
   simp only [hu,Option.map_some,Option.some.injEq] at h
   cases d<;>simp only at h<;>subst h<;>simp
theorem run_scv {src dst:TypeId} {a v:Value} (h:scv P src dst a=some v) (w:World):(convert src dst a).run P w= .ok v w:=by
 unfold scv at h
 split at h
 ·split at h
  ·rename_i k1 k h1 h2
   simp only [Option.some.injEq] at h;subst h
   obtain⟨d1,u1,_⟩:=qaZ h1
   obtain⟨d2,u2,e2⟩:=qaZ h2
   simp only at e2;subst e2
   unfold convert
   rw [Sem.run_bind,run_underlying u1,Result.andThen_ok,Sem.run_bind,run_underlying u2,Result.andThen_ok]
   simp [Conv.intToInt]
  ·rename_i k1 k h1 h2
   simp only [Option.some.injEq] at h;subst h
   obtain⟨d1,u1,_⟩:=qaZ h1
   obtain⟨d2,u2,e2⟩:=qaZ h2
   simp only at e2;subst e2
   unfold convert
   rw [Sem.run_bind,run_underlying u1,Result.andThen_ok,Sem.run_bind,run_underlying u2,Result.andThen_ok]
   simp [Conv.intToFloat]
  ·cases h
 ·split at h
  ·rename_i k1 k h1 h2
   obtain⟨d1,u1,_⟩:=qaZ h1
   obtain⟨d2,u2,e2⟩:=qaZ h2
   simp only at e2;subst e2
   split at h
   ·rename_i n hn
    split at h
    ·rename_i hc
     simp only [Option.some.injEq] at h;subst h
     unfold convert
     rw [Sem.run_bind,run_underlying u1,Result.andThen_ok,Sem.run_bind,run_underlying u2,Result.andThen_ok]
     simp [Conv.floatToInt,hn,hc]
    ·cases h
   ·cases h
  ·cases h
 ·split at h
  ·rename_i k1 h1 h2
   obtain⟨d1,u1,_⟩:=qaZ h1
   obtain⟨d2,u2,e2⟩:=qaZ h2
   simp only at e2;subst e2
   simp only [Option.some.injEq] at h;subst h
   unfold convert
   rw [Sem.run_bind,run_underlying u1,Result.andThen_ok,Sem.run_bind,run_underlying u2,Result.andThen_ok]
   simp
  ·cases h
 ·cases h
def fconv (P:Program) (src dst:TypeId):IV→Option FR
 | .p (.sc a)=>(scv P src dst a).map fun v=> {x:= .p (.sc v)}
 | _=>none
theorem f_conv {src dst:TypeId} {x:Operand} {zx:IV} {fr:FR} (ho:o.op= .convert src dst x) (hx:ρ x=some zx) (h:fconv P src dst zx=some fr):fr.ok P o ρ:=by
 unfold fconv at h
 split at h
 ·rename_i a
  cases hs:scv P src dst a with
  | none=>simp [hs] at h
  | some v=>
    simp only [hs,Option.map_some,Option.some.injEq] at h
    subst h
    refine .read fun M ac _ _ hr=>⟨v,?_, .sc M v⟩
    have e1:=(hr x (by simp [ho,Op.operands]) _ hx).sc_inv
    simp only [execOp,ho,e1]
    rw [Sem.run_bind,run_scv hs]
    rfl
 ·cases h
/-! ### parts of values -/
def fpart (P:Program) (t:TypeId) (cs:List IV) (off:Nat):Option IV:=
 match tag P t with
 | some true=>match tsz P t with
   | some n=>some (.agg ((cs.drop off).take n))
   | none=>none
 | some false=>cs[off]?
 | none=>none
theorem qjH {M:Mem} {t:TypeId} {cs:List IV} {off:Nat} {x:IV} {vs:List Value} (h:fpart P t cs off=some x) (hl:vs.length=cs.length)
  (h1: ∀v∈vs,v.oneCell'=true) (hr: ∀(i:Nat) (x:IV) (v:Value),cs[i]? =some x→vs[i]? =some v→VRel M x v):
  ∃v,(part t ⟨vs⟩ off).run P M.w= .ok v M.w∧VRel M x v:=by
 unfold fpart at h
 split at h
 ·rename_i ha
  split at h
  ·rename_i n hn
   simp only [Option.some.injEq] at h;subst h
   refine⟨.agg ⟨(vs.drop off).take n⟩,?_, .agg _ _ (by simp [hl]) (fun v hv=>h1 v (List.mem_of_mem_drop (List.mem_of_mem_take hv))) fun i y v hy hv=>?_⟩
   ·unfold part
    rw [Sem.run_bind,qcp ha]
    simp only [Result.andThen_ok,if_true,Sem.run_bind,qaC hn,Sem.run_pure]
    congr 2
    simp
   ·rw [List.getElem?_take] at hy hv
    split at hy
    ·rename_i hin
     rw [if_pos hin] at hv
     rw [List.getElem?_drop] at hy hv
     exact hr _ _ _ hy hv
    ·cases hy
  ·cases h
 ·rename_i ha
  have hlt:off < vs.length:=by
   rw [hl]
   rcases Nat.lt_or_ge off cs.length with h' | h'
   ·exact h'
   ·rw [List.getElem?_eq_none h'] at h;cases h
  refine⟨vs[off],?_,hr off x _ h (List.getElem?_eq_getElem hlt)⟩
  unfold part
  rw [Sem.run_bind,qcp ha]
  simp [hlt]
 ·cases h
def ffield (P:Program) (t:TypeId) (f:Nat):IV→Option FR
 | .agg cs=>match tfo P t f with
   | some (off,ft)=>(fpart P ft cs off).map fun x=> {x}
   | none=>none
 | _=>none
theorem qry {t:TypeId} {x:Operand} {f:Nat} {zx:IV} {fr:FR} (ho:o.op= .field t x f) (hx:ρ x=some zx) (h:ffield P t f zx=some fr):fr.ok P o ρ:=by
 unfold ffield at h
 split at h
 ·rename_i cs
  split at h
  ·rename_i off ft hf
   cases hp:fpart P ft cs off with
   | none=>simp [hp] at h
   | some z=>
     simp only [hp,Option.map_some,Option.some.injEq] at h
     subst h
     refine .read fun M ac _ _ hr=>?_
     obtain⟨vs,e,hl,h1,hv⟩:=(hr x (by simp [ho,Op.operands]) _ hx).agg_inv
     obtain⟨fs,fx,hu,hfx,rfl,rfl⟩:=und_tfo hf
     obtain⟨v,hrun,hrel⟩:=qjH (P:=P) hp hl h1 hv
     refine⟨v,?_,hrel⟩
     simp only [execOp,ho,e]
     simp only [Instr.field,Sem.run_bind,run_underlying hu,Result.andThen_ok,hfx,asAgg,Sem.run_pure,hrun]
  ·cases h
 ·cases h
def findex (P:Program) (t:TypeId) (x i:IV):Option FR:=
 match x with
 | .agg cs=>match tar P t with
   | some (len,e)=>match tsz P e,idx i len with
     | some n,some k=>(fpart P e cs (k * n)).map fun x=> {x}
     | _,_=>none
   | none=>none
 | .p (.sc (.string s))=>match tkd P t,idx i s.size with
   | some .string,some k=>(s.data[k]?).map fun b=> {x:=sci .u8 b.toNat}
   | _,_=>none
 | _=>none
theorem qrA {t:TypeId} {x i:Operand} {zx zi:IV} {fr:FR} (ho:o.op= .index t x i) (hx:ρ x=some zx) (hi:ρ i=some zi) (h:findex P t zx zi=some fr):fr.ok P o ρ:=by
 unfold findex at h
 split at h
 ·rename_i cs
  split at h
  ·rename_i len e he
   split at h
   ·rename_i n k hn hk
    cases hp:fpart P e cs (k * n) with
    | none=>simp [hp] at h
    | some z=>
      simp only [hp,Option.map_some,Option.some.injEq] at h
      subst h
      refine .read fun M ac _ _ hr=>?_
      obtain⟨vs,e1,hl,h1,hv⟩:=(hr x (by simp [ho,Op.operands]) _ hx).agg_inv
      obtain⟨kd,m,e2,h6,h7,h8,h9⟩:=qdI hk (hr i (by simp [ho,Op.operands]) _ hi)
      obtain⟨v,hrun,hrel⟩:=qjH (P:=P) hp hl h1 hv
      refine⟨v,?_,hrel⟩
      have hu:=und_tar he
      simp only [execOp,ho,e1,e2]
      simp only [Instr.index,asIntOf,Sem.run_bind,Sem.run_pure,Result.andThen_ok,run_underlying hu,h6,h7,and_self,if_true,qaC hn,h8,hrun]
   ·cases h
  ·cases h
 ·rename_i s
  split at h
  ·rename_i k ht hk
   obtain⟨d,hu,hd⟩:=qaZ ht
   simp only at hd;subst hd
   cases hb:s.data[k]? with
   | none=>simp [hb] at h
   | some b=>
     simp only [hb,Option.map_some,Option.some.injEq] at h
     subst h
     refine .read fun M ac _ _ hr=>⟨.int .u8 b.toNat,?_, .sc M _⟩
     have e1:=(hr x (by simp [ho,Op.operands]) _ hx).sc_inv
     obtain⟨kd,m,e2,h6,h7,h8,h9⟩:=qdI hk (hr i (by simp [ho,Op.operands]) _ hi)
     simp only [execOp,ho,e1,e2]
     have hs:s[k]? =some b:=by
      obtain⟨hlt,hb'⟩:=Array.getElem?_eq_some_iff.1 hb
      have:s[k]? =some (s[k]'hlt):=getElem?_pos s k hlt
      rw [this];congr 1
     simp only [Instr.index,asIntOf,Sem.run_bind,Sem.run_pure,Result.andThen_ok,run_underlying hu,h6,if_true,h8,hs]
  ·cases h
 ·cases h
def fextract (i:Nat):IV→Option FR
 | .tup cs=>(cs[i]?).map fun x=> {x}
 | _=>none
theorem qpr {x:Operand} {i:Nat} {zx:IV} {fr:FR} (ho:o.op= .extract x i) (hx:ρ x=some zx) (h:fextract i zx=some fr):fr.ok P o ρ:=by
 unfold fextract at h
 split at h
 ·rename_i cs
  cases hi:cs[i]? with
  | none=>simp [hi] at h
  | some z=>
    simp only [hi,Option.map_some,Option.some.injEq] at h
    subst h
    refine .read fun M ac _ _ hr=>?_
    obtain⟨vs,e,hl,hv⟩:=(hr x (by simp [ho,Op.operands]) _ hx).tup_inv
    have hlt:i < vs.length:=by
     rw [hl]
     rcases Nat.lt_or_ge i cs.length with h' | h'
     ·exact h'
     ·rw [List.getElem?_eq_none h'] at hi;cases hi
    refine⟨vs[i],?_,hv i z _ hi (List.getElem?_eq_getElem hlt)⟩
    simp [execOp,ho,e,Instr.extract,hlt]
 ·cases h
end Go.Idl
