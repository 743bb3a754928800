/- Facts that the proofs of this claim lean on. -/
import Derived.Scope
import Derived.Test.YtfhhdgkhajkapaaGreatIdW
import Derived.Test.YtfhhdgkhajkapaaGreatIdP
import Derived.Recover
set_option linter.unusedSimpArgs false
set_option linter.unusedVariables false
/-
 Rules of the walk: loops, slices that come to be owned, lengths, what a function returns.
-/
namespace Go.Idl
variable {P:Program} {h0:IH}
/-! ### what lengths are -/
mutual
def psm:PV→Prop
 | .imm _ rows=>rows.length≤maxLen∧pssm rows
 | .rp cells=>plsm cells
 | .nan _=>True
 | .emp=>True
 | .sc _=>True
def plsm:List PV→Prop
 | []=>True
 | x::r=>psm x∧plsm r
def pssm:List (List PV)→Prop
 | []=>True
 | x::r=>plsm x∧pssm r
end
theorem qiY: ∀ {l:List PV},(∀(j:Nat) (x:PV),l[j]? =some x→psm x)→plsm l
 | [],_=>trivial
 | y::l,h=>⟨h 0 y rfl,qiY fun j x hx=>h (j+1) x (by simpa using hx)⟩
theorem qnH: ∀ {l:List (List PV)},(∀(i:Nat) (r:List PV) (j:Nat) (x:PV),l[i]? =some r→r[j]? =some x→psm x)→pssm l
 | [],_=>trivial
 | y::l,h=>⟨qiY fun j x hx=>h 0 y j x rfl hx,qnH fun i r j x hi hx=>h (i+1) r j x (by simpa using hi) hx⟩
theorem PRel.small {w:World} {own:Nat→Prop} {x:PV} {v:Value} (h:PRel w own x v):psm x:=by
 induction h with
 | sc v=>trivial
 | emp a=>trivial
 | imm sz rows a cap c o f hl hm ha hs hc hr ih=>exact⟨Nat.le_trans hl hm,qnH fun i r j x hi hj=>ih i r j x hi hj⟩
 | rp cells c o f ha hc hr ih=>exact qiY fun j x hj=>ih j x hj
 | nan k b h=>trivial
mutual
def ism:IV→Prop
 | .p x=>psm x
 | .agg cs=>isms cs
 | .tup cs=>isms cs
 | .ref .. =>True
 | .ptr .. =>True
 | .mp _=>True
 | .clo .. =>True
 | .dead=>True
def isms:List IV→Prop
 | []=>True
 | x::r=>ism x∧isms r
end
theorem qc9: ∀ {l:List IV},(∀(j:Nat) (x:IV),l[j]? =some x→ism x)→isms l
 | [],_=>trivial
 | y::l,h=>⟨h 0 y rfl,qc9 fun j x hx=>h (j+1) x (by simpa using hx)⟩
theorem VRel.small {M:Mem} {x:IV} {v:Value} (h:VRel M x v):ism x:=by
 induction h with
 | p x v h=>exact h.small
 | ref b g off len v hA' hv h=>trivial
 | ptr b g r j v hA' hv h=>trivial
 | mp b v hA' hv h=>trivial
 | clo fn first cap vf vc hf hc rf rc i1 i2=>trivial
 | agg cs vs hl h1 r ih=>
   refine qc9 fun i x hx=>?_
   have hlt:=qab hx
   rw [←hl] at hlt
   exact ih i x _ hx (List.getElem?_eq_getElem hlt)
 | tup cs vs hl r ih=>
   refine qc9 fun i x hx=>?_
   have hlt:=qab hx
   rw [←hl] at hlt
   exact ih i x _ hx (List.getElem?_eq_getElem hlt)
 | dead v=>trivial
/-! ### states that stand for the same -/
def Live:List It→Prop
 | .code _::_=>True
 | .ops _ _::_=>True
 | _=>False
def Gho (h0:IH) (S S':qaa):Prop:= ∀M a,SRel h0 S M a→ ∃M',M'.w=M.w∧qae M M'∧SRel h0 S' M' a
theorem qg0 {k:List It} {S S':qaa} {Q:Exit→qaa→Prop} (hk:Live k) (hg:Gho h0 S S') (h:IRun P h0 k S' Q):IRun P h0 k S Q:=by
 cases k with
 | nil=>exact hk.elim
 | cons y k=>
   cases y with
   | code c=>
     intro M0 hM0 M a hs hr
     obtain⟨M',e,st,hr'⟩:=hg M a hr
     rw [←e]
     exact h M0 hM0 M' a (hs.trans st) hr'
   | blk id=>exact hk.elim
   | ops all l=>
     intro M0 hM0 M a hs hr
     obtain⟨M',e,st,hr'⟩:=hg M a hr
     rw [←e]
     exact h M0 hM0 M' a (hs.trans st) hr'
theorem qrJ {S:qaa} (t sz:Nat) {x:IV} (hx:look S.s t=some x) (he:x= .p .emp∨x= .p (.sc (.slice none 0 0))):
  Gho h0 S ⟨S.n,(t, .ref S.nx 0 0 0)::S.s,S.d,S.nx+1,(S.nx, .arr sz 0 [])::S.l⟩:=by
 intro M a hr
 have hA: ¬M.H.A S.nx:=fun h=>Nat.lt_irrefl _ (hr.heap.A _ h)
 obtain⟨st,rel⟩:=qem hr.heap.rel S.nx hA sz 0
 obtain⟨v,v1,v2⟩:=hr.slot t x hx
 have hv: ∃c,v= .slice c 0 0:=by
  rcases he with rfl | rfl
  ·cases v2 with
   | p x v h=>cases h with
     | emp c=>exact⟨c,rfl⟩
  ·have:=v2.sc_inv;subst this;exact⟨none,rfl⟩
 obtain⟨c,rfl⟩:=hv
 refine⟨⟨M.w,M.H.put S.nx (.arr sz 0 []),putβ M.β S.nx none⟩,rfl,st,⟨⟨rel,fun b hb=>?_,fun b=>?_⟩,hr.size,fun i y hy=>?_,hr.defs.step st⟩⟩
 ·rcases hb with hb | rfl
  ·exact Nat.lt_succ_of_lt (hr.heap.A b hb)
  ·exact Nat.lt_succ_self _
 ·simp only [AH.put,List.cons_append,look]
  by_cases e:b=S.nx
  ·subst e;simp
  ·rw [if_neg e,if_neg (fun h=>e h.symm),hr.heap.G]
 ·simp only [look] at hy
  split at hy
  ·rename_i e;subst e
   cases hy
   refine⟨_,v1, .ref _ _ _ _ _ (.inr rfl) ⟨c,0,rfl⟩ fun blk hb=>?_⟩
   simp only [AH.put,if_true,Option.some.injEq] at hb
   subst hb
   exact⟨Nat.le_refl _,fun _=>⟨c,0,rfl,Nat.le_refl _,Nat.le_refl _,Nat.le_refl _, .inl rfl⟩⟩
  ·obtain⟨v,w1,w2⟩:=hr.slot i y hy
   exact⟨v,w1,w2.step st⟩
theorem qbe (t sz:Nat) {k:List It} {N:Nat} {s:List (Nat × IV)} {d:List IDef} {nx:Nat} {l:List (Nat × IBlk)} {Q:Exit→qaa→Prop} (hk:Live k) {x:IV} (hx:look s t=some x) (he:x= .p .emp∨x= .p (.sc (.slice none 0 0)))
  (h:IRun P h0 k ⟨N,(t, .ref nx 0 0 0)::s,d,nx+1,(nx, .arr sz 0 [])::l⟩ Q):IRun P h0 k ⟨N,s,d,nx,l⟩ Q:=
 qg0 hk (qrJ (S:=⟨N,s,d,nx,l⟩) t sz hx he) h
theorem qqx {S:qaa} (b0 r j sz:Nat) {sz0 g0:Nat} {rows:List (List IV)} {row:List IV} {x:IV} (hb0:look (S.l++h0.m) b0=some (.arr sz0 g0 rows)) (hrow:rows[r]? =some row) (hx:row[j]? =some x)
  (he:x= .p .emp∨x= .p (.sc (.slice none 0 0))):
  Gho h0 S ⟨S.n,S.s,S.d,S.nx+1,(b0, .arr sz0 g0 (rows.set r (row.set j (.ref S.nx 0 0 0))))::(S.nx, .arr sz 0 [])::S.l⟩:=by
 intro M a hr
 have hA: ¬M.H.A S.nx:=fun h=>Nat.lt_irrefl _ (hr.heap.A _ h)
 obtain⟨st,rel⟩:=qem hr.heap.rel S.nx hA sz 0
 have hG0:M.H.G b0=some (.arr sz0 g0 rows):=by rw [hr.heap.G];exact hb0
 have hne:b0≠S.nx:=fun e=>hA (e ▸hr.heap.rel.dom b0 _ hG0)
 generalize hM1:(⟨M.w,M.H.put S.nx (.arr sz 0 []),putβ M.β S.nx none⟩:Mem)=M1 at st rel
 have hw1:M1.w=M.w:=by rw [←hM1]
 have hG1:M1.H.G b0=some (.arr sz0 g0 rows):=by rw [←hM1];simp [AH.put,hne,hG0]
 have hGn:M1.H.G S.nx=some (.arr sz 0 []):=by rw [←hM1];simp [AH.put]
 have hAn:M1.H.A S.nx:=by rw [←hM1];exact .inr rfl
 have hβn:M1.β S.nx=none:=by rw [←hM1];simp [putβ]
 have hA1: ∀b,M1.H.A b→b < S.nx+1:=by
  intro b hb
  rw [←hM1] at hb
  rcases hb with hb | rfl
  ·exact Nat.lt_succ_of_lt (hr.heap.A b hb)
  ·exact Nat.lt_succ_self _
 have hGo: ∀b,M1.H.G b=if b=S.nx then some (.arr sz 0 []) else look (S.l++h0.m) b:=by
  intro b
  rw [←hM1]
  simp only [AH.put]
  by_cases e:b=S.nx
  ·simp [e]
  ·rw [if_neg e,if_neg e,hr.heap.G]
 have hlen:(rows.set r (row.set j (.ref S.nx 0 0 0))).length=rows.length:=by simp
 let M2:Mem:=⟨M1.w,M1.H.put b0 (.arr sz0 g0 (rows.set r (row.set j (.ref S.nx 0 0 0)))),M1.β⟩
 have hown: ∀c,M2.own c→M1.own c:=by
  rintro c (h | ⟨b,blk,o,n,h1,h2⟩)
  ·exact .inl h
  ·by_cases e:b=b0
   ·subst e;exact .inr ⟨b,_,o,n,hG1,h2⟩
   ·simp only [M2,AH.put,e,if_false] at h1
    exact .inr ⟨b,blk,o,n,h1,h2⟩
 have s2:qae M1 M2:=by
  refine⟨rfl,rfl,rfl,Nat.le_refl _,fun c _ ho=>⟨rfl,fun h=>ho (hown c h)⟩,fun _ h=> .inl h,fun b blk' hA' hb'=>?_,rfl,fun _ _=>rfl⟩
  by_cases e:b=b0
  ·subst e
   simp only [M2,AH.put,if_true,Option.some.injEq] at hb'
   subst hb'
   exact⟨_,hG1,rfl,rfl,Nat.le_refl _,fun _=>⟨rfl,by simp [IBlk.len]⟩⟩
  ·simp only [M2,AH.put,e,if_false] at hb'
   exact⟨blk',hb',rfl,rfl,Nat.le_refl _,fun _=>⟨rfl,rfl⟩⟩
 have rel2:MRel M2:=by
  refine rel.change s2 b0 (.inr rfl) (fun b' e=>by simp [M2,AH.put,e]) (fun _ _=>rfl) (fun _ _ _ _ _ _ _ _=>rfl) (fun blk' hb'=>?_) (fun blk' c o n hb' hc' b' blk o' n' e h1 h2=>?_) (fun blk' c o n hb' hc'=>?_)
  ·simp only [M2,AH.put,if_true,Option.some.injEq] at hb'
   subst hb'
   have hrel:=rel.blk b0 _ hG1
   refine⟨fun row' hr'=>?_,fun hn=>?_,fun c o n hc=>?_⟩
   ·rcases List.mem_or_eq_of_mem_set hr' with h | rfl
    ·exact hrel.1 row' h
    ·simpa using hrel.1 row (List.mem_of_getElem? hrow)
   ·have:=hrel.2.1 hn
    rw [this] at hrow;simp at hrow
   ·obtain⟨cs,ty,q1,q2,q3,q4,q5⟩:=hrel.2.2 c o n hc
    refine⟨cs,ty,q1,by rw [hlen];exact q2,q3,q4,fun i row' j' x' hi hj=>?_⟩
    rw [List.getElem?_set] at hi
    split at hi
    ·rename_i e
     subst e
     split at hi
     ·cases hi
      rw [List.getElem?_set] at hj
      split at hj
      ·rename_i e;subst e
       split at hj
       ·cases hj
        obtain⟨v,v1,v2,v3⟩:=q5 r row j x hrow hx
        have hv: ∃c,v= .slice c 0 0:=by
         rcases he with rfl | rfl
         ·cases v3 with
          | p x v h=>cases h with
            | emp c=>exact⟨c,rfl⟩
         ·have:=v3.sc_inv;subst this;exact⟨none,rfl⟩
        obtain⟨c',rfl⟩:=hv
        refine⟨_,v1,v2, .ref _ _ _ _ _ (.inl hAn) ⟨c',0,rfl⟩ fun blk hb=>?_⟩
        simp only [M2,AH.put,if_neg (Ne.symm hne),hGn,Option.some.injEq] at hb
        subst hb
        exact⟨Nat.le_refl _,fun _=>⟨c',0,rfl,Nat.le_refl _,Nat.le_refl _,Nat.le_refl _, .inl (by simp [M2,hβn])⟩⟩
       ·cases hj
      ·obtain⟨v,v1,v2,v3⟩:=q5 r row j' x' hrow hj
       exact⟨v,v1,v2,v3.step s2⟩
     ·cases hi
    ·obtain⟨v,v1,v2,v3⟩:=q5 i row' j' x' hi hj
     exact⟨v,v1,v2,v3.step s2⟩
  ·exact e (rel.inj b' b0 blk _ c o' n' o n h1 hG1 h2 hc')
  ·exact rel.odis b0 _ c o n hG1 hc'
 refine⟨M2,hw1,st.trans s2,⟨⟨rel2,fun b hb=>?_,fun b=>?_⟩,hr.size,fun i y hy=>?_,hr.defs.step (st.trans s2)⟩⟩
 ·rcases hb with hb | rfl
  ·exact hA1 b hb
  ·exact hA1 _ (rel.dom _ _ hG1)
 ·simp only [M2,AH.put,List.cons_append,look]
  by_cases e:b=b0
  ·subst e;simp
  ·rw [if_neg e,if_neg (fun h=>e h.symm),hGo b]
   by_cases e2:b=S.nx
   ·simp [e2]
   ·rw [if_neg e2,if_neg (fun h=>e2 h.symm)]
 ·obtain⟨v,w1,w2⟩:=hr.slot i y hy
  exact⟨v,w1,w2.step (st.trans s2)⟩
theorem walk_ownB (b0 r j sz:Nat) {k:List It} {N:Nat} {s:List (Nat × IV)} {d:List IDef} {nx:Nat} {l:List (Nat × IBlk)} {Q:Exit→qaa→Prop} (hk:Live k) {sz0 g0:Nat} {rows:List (List IV)} {row:List IV} {x:IV}
  (hb0:look (l++h0.m) b0=some (.arr sz0 g0 rows)) (hrow:rows[r]? =some row) (hx:row[j]? =some x) (he:x= .p .emp∨x= .p (.sc (.slice none 0 0)))
  (h:IRun P h0 k ⟨N,s,d,nx+1,(b0, .arr sz0 g0 (rows.set r (row.set j (.ref nx 0 0 0))))::(nx, .arr sz 0 [])::l⟩ Q):IRun P h0 k ⟨N,s,d,nx,l⟩ Q:=
 qg0 hk (qqx (S:=⟨N,s,d,nx,l⟩) b0 r j sz hb0 hrow hx he) h
/-! ### a nil slice, or an empty one without room, is an empty one -/
def wkp (a b:PV):Prop:=a=b∨(a= .emp∨a= .sc (.slice none 0 0))∧ ∃sz,b= .imm sz []
mutual
def wk:IV→IV→Prop
 | .p a,y=>match y with
   | .p b=>wkp a b
   | _=>False
 | .agg xs,y=>match y with
   | .agg ys=>wks xs ys
   | _=>False
 | .tup xs,y=>match y with
   | .tup ys=>wks xs ys
   | _=>False
 | .ref b g o l,y=> .ref b g o l=y
 | .ptr b g o l,y=> .ptr b g o l=y
 | .mp b,y=> .mp b=y
 | .clo f x c,y=> .clo f x c=y
 | .dead,y=> .dead=y
def wks:List IV→List IV→Prop
 | [],y=>y= []
 | x::xs,y=>match y with
   | y::ys=>wk x y∧wks xs ys
   | []=>False
end
theorem wk_refl (x:IV):wk x x:=by
 apply IV.rec (motive_1:=fun x=>wk x x) (motive_2:=fun l=>wks l l)
 ·intro a;exact .inl rfl
 ·intros;rfl
 ·intros;rfl
 ·intros;rfl
 ·intros;rfl
 ·intro cs h;exact h
 ·intro cs h;exact h
 ·rfl
 ·rfl
 ·intro x l i1 i2;exact⟨i1,i2⟩
theorem wks_refl: ∀(l:List IV),wks l l
 | []=>rfl
 | x::l=>⟨wk_refl x,wks_refl l⟩
theorem qca: ∀ {l m:List IV},wks l m→m.length=l.length∧ ∀(i:Nat) (x y:IV),l[i]? =some x→m[i]? =some y→wk x y
 | [],m,h=>by simp only [wks] at h;subst h;simp
 | x::l, [],h=>by simp [wks] at h
 | x::l,y::m,h=>by
   obtain⟨h1,h2⟩:=qca h.2
   refine⟨by simp [h1],fun i a b ha hb=>?_⟩
   cases i with
   | zero=>simp at ha hb;subst ha;subst hb;exact h.1
   | succ i=>exact h2 i a b (by simpa using ha) (by simpa using hb)
theorem wk_fz {G:Nat→Option IBlk} {ids:List Nat} (x:IV): ∀y,wk x y→Fz G ids x y:=by
 apply IV.rec (motive_1:=fun x=> ∀y,wk x y→Fz G ids x y) (motive_2:=fun l=> ∀x∈l,∀y,wk x y→Fz G ids x y)
 ·intro a y h
  cases y<;>simp only [wk] at h
  rcases h with rfl | ⟨h,sz,rfl⟩
  ·exact .refl _
  ·exact .nil a sz h
 ·intro b g off len y h;simp only [wk] at h;subst h;exact .refl _
 ·intro b g off len y h;simp only [wk] at h;subst h;exact .refl _
 ·intro b y h;simp only [wk] at h;subst h;exact .refl _
 ·intro fn f c _ _ y h;simp only [wk] at h;subst h;exact .refl _
 ·intro cs ih y h
  cases y<;>simp only [wk] at h
  obtain⟨h1,h2⟩:=qca h
  exact .agg _ _ h1 fun i x y hx hy=>ih x (List.mem_of_getElem? hx) y (h2 i x y hx hy)
 ·intro cs ih y h
  cases y<;>simp only [wk] at h
  obtain⟨h1,h2⟩:=qca h
  exact .tup _ _ h1 fun i x y hx hy=>ih x (List.mem_of_getElem? hx) y (h2 i x y hx hy)
 ·intro y h;simp only [wk] at h;subst h;exact .refl _
 ·intro x hx;cases hx
 ·intro x l i1 i2 z hz
  rcases List.mem_cons.1 hz with rfl | hz
  ·exact i1
  ·exact i2 z hz
theorem VRel.wk {M:Mem} {x:IV} {v:Value} (h:VRel M x v): ∀ {y:IV},wk x y→VRel M y v:=by
 induction h with
 | p a v h=>
   intro y hy
   cases y<;>simp only [Idl.wk] at hy
   rcases hy with rfl | ⟨ha,sz,rfl⟩
   ·exact .p _ _ h
   ·have: ∃c,v= .slice c 0 0:=by
     rcases ha with rfl | rfl
     ·cases h with
      | emp c=>exact⟨c,rfl⟩
     ·cases h;exact⟨none,rfl⟩
    obtain⟨c,rfl⟩:=this
    exact .p _ _ (.imm sz [] c 0 0 0 (fun _ _=>undef) (Nat.le_refl _) (Nat.zero_le _) (fun h=>absurd h (by simp)) (by simp) (by simp) (by simp))
 | ref b g off len v hA' hv h=>intro y hy;simp only [Idl.wk] at hy;subst hy;exact .ref b g off len v hA' hv h
 | ptr b g r j v hA' hv h=>intro y hy;simp only [Idl.wk] at hy;subst hy;exact .ptr b g r j v hA' hv h
 | mp b v hA' hv h=>intro y hy;simp only [Idl.wk] at hy;subst hy;exact .mp b v hA' hv h
 | clo fn first cap vf vc hf hc rf rc i1 i2=>intro y hy;simp only [Idl.wk] at hy;subst hy;exact .clo fn first cap vf vc hf hc rf rc
 | agg cs vs hl h1 r ih=>
   intro y hy
   cases y<;>simp only [Idl.wk] at hy
   obtain⟨e1,e2⟩:=qca hy
   refine .agg _ vs (by omega) h1 fun i y v hy hv=>?_
   have hlt:=qab hy
   have hx:=List.getElem?_eq_getElem (show i < cs.length by omega)
   exact ih i _ v hx hv (e2 i _ y hx hy)
 | tup cs vs hl r ih=>
   intro y hy
   cases y<;>simp only [Idl.wk] at hy
   obtain⟨e1,e2⟩:=qca hy
   refine .tup _ vs (by omega) fun i y v hy hv=>?_
   have hlt:=qab hy
   have hx:=List.getElem?_eq_getElem (show i < cs.length by omega)
   exact ih i _ v hx hv (e2 i _ y hx hy)
 | dead v=>intro y hy;simp only [Idl.wk] at hy;subst hy;exact .dead v
def wkRs (a b:List (List IV)):Prop:=a=b∨b.length=a.length∧ ∀(i:Nat) (r r':List IV),a[i]? =some r→b[i]? =some r'→wks r r'
def wkB:IBlk→IBlk→Prop
 | .arr sz g rows,y=>match y with
   | .arr sz' g' rows'=>sz=sz'∧g=g'∧wkRs rows rows'
   | _=>False
 | .mp es,y=> .mp es=y
 | .ob k vs,y=> .ob k vs=y
theorem wkB_fz {G:Nat→Option IBlk} {ids:List Nat} {x y:IBlk} (h:wkB x y):FzB G ids x y:=by
 cases x with
 | arr sz g rows=>
   cases y with
   | mp es=>exact h.elim
   | ob k vs=>exact h.elim
   | arr sz' g' rows'=>
     obtain⟨rfl,rfl,h⟩:=h
     rcases h with rfl | ⟨h1,h2⟩
     ·exact .refl _
     ·refine⟨rfl,rfl,h1,fun i row row' hi hi'=>?_⟩
      obtain⟨e1,e2⟩:=qca (h2 i row row' hi hi')
      exact⟨e1,fun j x y hx hy=>wk_fz x y (e2 j x y hx hy)⟩
 | mp es=>simp only [wkB] at h;subst h;exact .refl _
 | ob k vs=>simp only [wkB] at h;subst h;exact .refl _
section
variable {a b:PV} {x y:IV} {xs ys:List IV} {sz sz' g g':Nat} {rows rows':List (List PV)} {rs rs':List (List IV)}
@[go_sem] theorem wk_self:wk x x=True:=eq_true (wk_refl x)
@[go_sem] theorem wkp_self:wkp a a=True:=eq_true (.inl rfl)
@[go_sem] theorem wks_self:wks xs xs=True:=eq_true (wks_refl xs)
@[go_sem] theorem wkRs_self:wkRs rs rs=True:=eq_true (.inl rfl)
@[go_sem] theorem wk_p:wk (.p a) (.p b)=wkp a b:=by simp only [wk]
@[go_sem] theorem wk_agg:wk (.agg xs) (.agg ys)=wks xs ys:=by simp only [wk]
@[go_sem] theorem wk_tup:wk (.tup xs) (.tup ys)=wks xs ys:=by simp only [wk]
@[go_sem] theorem wks_cons:wks (x::xs) (y::ys)=(wk x y∧wks xs ys):=by simp only [wks]
@[go_sem] theorem wkp_nil:wkp (.sc (.slice none 0 0)) (.imm sz rows)=(rows= []):=by simp [wkp]
@[go_sem] theorem wkp_imm:wkp (.imm sz rows) (.imm sz' rows')=(sz=sz'∧rows=rows'):=by simp [wkp]
@[go_sem] theorem wkp_sc {u v:Value}:wkp (.sc u) (.sc v)=(u=v):=by simp [wkp]
@[go_sem] theorem wkB_arr:wkB (.arr sz g rs) (.arr sz' g' rs')=(sz=sz'∧g=g'∧wkRs rs rs'):=by simp only [wkB]
end
/-! ### loops -/
def qgx (S:qaa) (nx:Nat):List (Nat × IV)→Prop
 | []=>True
 | (t,y)::r=>qaq (look S.s t) (fun z=>wk z y) False∧(nx=S.nx∨bel nx y)∧qgx S nx r
def qhD (S:qaa) (m:List (Nat × IBlk)) (nx:Nat):List (Nat × IBlk)→Prop
 | []=>True
 | (b,blk)::r=>qaq (look (S.l++m) b) (fun z=>wkB z blk) False∧(nx=S.nx∨b < nx∧qbk nx blk)∧qhD S m nx r
def qgp (nx0:Nat) (l':List (Nat × IBlk)):List (Nat × IBlk)→Prop
 | []=>True
 | (b,_)::r=>(nx0≤b∨ ∃blk,(b,blk)∈l')∧qgp nx0 l' r
theorem qgN {S:qaa} {nx:Nat}: ∀ {s:List (Nat × IV)},qgx S nx s→ ∀p∈s,(∃z,look S.s p.1=some z∧wk z p.2)∧(nx=S.nx∨bel nx p.2)
 | [],_,p,hp=>by cases hp
 | (t,y)::r,h,p,hp=>by
   rcases List.mem_cons.1 hp with rfl | hp
   ·refine⟨?_,h.2.1⟩
    have:=h.1
    cases hl:look S.s t with
    | none=>rw [hl] at this;exact this.elim
    | some z=>rw [hl] at this;exact⟨z,rfl,this⟩
   ·exact qgN h.2.2 p hp
theorem qhE {S:qaa} {m:List (Nat × IBlk)} {nx:Nat}: ∀ {s:List (Nat × IBlk)},qhD S m nx s→ ∀p∈s,(∃z,look (S.l++m) p.1=some z∧wkB z p.2)∧(nx=S.nx∨p.1 < nx∧qbk nx p.2)
 | [],_,p,hp=>by cases hp
 | (t,y)::r,h,p,hp=>by
   rcases List.mem_cons.1 hp with rfl | hp
   ·refine⟨?_,h.2.1⟩
    have:=h.1
    cases hl:look (S.l++m) t with
    | none=>rw [hl] at this;exact this.elim
    | some z=>rw [hl] at this;exact⟨z,rfl,this⟩
   ·exact qhE h.2.2 p hp
theorem oldIn_mem {nx0:Nat} {l':List (Nat × IBlk)}: ∀ {s:List (Nat × IBlk)},qgp nx0 l' s→ ∀p∈s,nx0≤p.1∨ ∃blk,(p.1,blk)∈l'
 | [],_,p,hp=>by cases hp
 | (t,y)::r,h,p,hp=>by
   rcases List.mem_cons.1 hp with rfl | hp
   ·exact h.1
   ·exact oldIn_mem h.2 p hp
structure Cut (h0:IH) (S S':qaa):Prop where
 n:S'.n=S.n
 d:S'.d=S.d
 dbel:S.d= []∨S'.nx=S.nx
 low:h0.nx≤S'.nx
 top:S'.nx≤S.nx
 slots:qgx S S'.nx S'.s
 blks:qhD S h0.m S'.nx S'.l
 others:qgp h0.nx S'.l S.l
theorem Cut.sub {S S':qaa} (h:Cut h0 S S'):Sub h0 [] S S':=by
 refine⟨h.n,h.d,h.dbel,h.low,h.top,fun p hp=>?_,fun p hp=>?_,oldIn_mem h.others,by simp⟩
 ·obtain⟨⟨z,h1,h3⟩,h2⟩:=qgN h.slots p hp
  exact⟨z,h1,wk_fz _ _ h3,h2⟩
 ·obtain⟨⟨z,h1,h3⟩,h2⟩:=qhE h.blks p hp
  exact⟨z,h1,wkB_fz h3,h2⟩
def qdC (P:Program) (h0:IH) (Q:Exit→qaa→Prop) (n:Nat) (k:List It) (next:qaa→Prop):Exit→qaa→Prop
 | .normal,S=>next S
 | .exit id,S=>qcI P h0 Q n id S (qbP id k)
 | .ret,S=>Q .ret S
 | .panic ch,S=>Q (.panic ch) S
 | e,S=>after P h0 Q k e S
section
variable {Q:Exit→qaa→Prop} {n:Nat} {k:List It} {next:qaa→Prop} {S:qaa}
@[go_sem ↓] theorem qsm:qdC P h0 Q n k next .normal S=next S:=(rfl)
@[go_sem ↓] theorem qsC {id:Nat}:qdC P h0 Q n k next (.exit id) S=qcI P h0 Q n id S (qbP id k):=(rfl)
@[go_sem ↓] theorem loopQ_ret:qdC P h0 Q n k next .ret S=Q .ret S:=(rfl)
end
theorem qan {ι:Type} {c:Code} {k:List It} {S:qaa} {Q:Exit→qaa→Prop} (n m:Nat) (I:ι→Prop) (St:ι→qaa) (μ:ι→Nat) (i0:ι) (hI:I i0) (hi:Cut h0 S (St i0))
  (hr: ∀i,I i→vc P h0 (qdC P h0 Q n k fun S'=> ∃i',I i'∧μ i' < μ i∧Cut h0 S' (St i')) m [.code c] (St i)):IRun P h0 (.code (.loop c)::k) S Q:=by
 refine qjr (ι:= {i // I i}) (fun i=>St i.1) (fun i=>μ i.1) ⟨i0,hI⟩ ⟨[],hi.sub⟩ fun⟨i,hIi⟩=>?_
 have:=vc_sound _ _ _ _ (hr i hIi)
 refine qbd.mono this fun e S' h=>?_
 have h:qdC P h0 Q n k (fun S'=> ∃i',I i'∧μ i' < μ i∧Cut h0 S' (St i')) e S':=h
 cases e with
 | normal=>obtain⟨i',h1,h2,h3⟩:=h;exact⟨⟨i',h1⟩, [],h2,h3.sub⟩
 | exit id=>
   simp only [qdC,qcI] at h
   cases hb:qbP id k with
   | none=>rw [hb,qcx] at h;exact(show after P h0 Q k (.exit id) S' from after_exit_none hb h)
   | some k'=>rw [hb,qaj] at h;exact(show after P h0 Q k (.exit id) S' from after_exit hb (vc_sound Q n _ _ h))
 | ret=>exact(show after P h0 Q k .ret S' from after_ret h)
 | panic ch=>exact(show after P h0 Q k (.panic ch) S' from after_panic h)
 | goto l=>exact h
 | outgrown=>exact h
theorem irun_scope {c:Code} {k:List It} {S:qaa} {Q:Exit→qaa→Prop} (h:qbd P h0 c S fun e S'=>match e with
  | .goto _=>False
  | e=>after P h0 Q k e S'):IRun P h0 (.code (.scope c)::k) S Q:=by
 intro M0 hM0 M a hs hr ro hro
 obtain rfl:ro=none:=hro.resolve_right (by intro h;cases h)
 refine wpIn_wide.2 (wp_scope_straight (wp_mono (wpIn_wide.1 (h M0 hM0 M a hs hr none (.inl rfl))) ?_))
 rintro e a' w' ⟨M',S',rfl,h2,h3,h4⟩
 cases e with
 | goto l=>exact h4.elim
 | normal=>exact⟨M',S',rfl,h2,h3,h4⟩
 | exit i=>exact⟨M',S',rfl,h2,h3,h4⟩
 | ret=>exact⟨M',S',rfl,h2,h3,h4⟩
 | panic ch=>exact⟨M',S',rfl,h2,h3,h4⟩
 | outgrown=>exact⟨M',S',rfl,h2,h3,h4⟩
section
variable {Q:Exit→qaa→Prop} {n:Nat} {k:List It} {S:qaa}
end
/-! ### what a function returns -/
def pvs2:List (List IV)→Option (List (List PV))
 | []=>some []
 | r::rs=>match pvs r,pvs2 rs with
   | some x,some xs=>some (x::xs)
   | _,_=>none
theorem qnI: ∀ {l:List (List IV)} {ps:List (List PV)},pvs2 l=some ps→l=ps.map (·.map .p)
 | [],ps,h=>by simp only [pvs2,Option.some.injEq] at h;subst h;rfl
 | r::rs,ps,h=>by
   unfold pvs2 at h
   split at h
   ·rename_i x xs h1 h2
    simp only [Option.some.injEq] at h;subst h
    rw [qnI h2,qie h1];rfl
   ·cases h
mutual
def frz (G:Nat→Option IBlk):IV→Option IV
 | .p x=>some (.p x)
 | .ref b g off len=>match G b with
   | some (.arr sz g' rows)=>if g=g' then(pvs2 ((rows.drop off).take len)).map fun ps=> .p (.imm sz ps) else none
   | _=>none
 | .ptr b g r j=>match G b with
   | some (.arr _ g' rows)=>if g=g' then match rows[r]? with
     | some row=>(pvs (row.drop j)).map fun ps=> .p (.rp ps)
     | none=>none
     else none
   | _=>none
 | .agg cs=>(frzs G cs).map .agg
 | .tup cs=>(frzs G cs).map .tup
 | .clo fn first cap=>match frzs G first,frzs G cap with
   | some f,some c=>some (.clo fn f c)
   | _,_=>none
 | _=>none
def frzs (G:Nat→Option IBlk):List IV→Option (List IV)
 | []=>some []
 | x::r=>match frz G x,frzs G r with
   | some y,some ys=>some (y::ys)
   | _,_=>none
end
mutual
def refs:IV→List Nat
 | .ref b _ _ _=> [b]
 | .ptr b _ _ _=> [b]
 | .agg cs=>qaK cs
 | .tup cs=>qaK cs
 | .clo _ first cap=>qaK first++qaK cap
 | _=> []
def qaK:List IV→List Nat
 | []=> []
 | x::r=>refs x++qaK r
end
theorem qc7 {G:Nat→Option IBlk}: ∀ {l ys:List IV},frzs G l=some ys→ys.length=l.length∧ ∀(i:Nat) (x y:IV),l[i]? =some x→ys[i]? =some y→frz G x=some y
 | [],ys,h=>by simp only [frzs,Option.some.injEq] at h;subst h;simp
 | x::r,ys,h=>by
   unfold frzs at h
   split at h
   ·rename_i y ys' h1 h2
    simp only [Option.some.injEq] at h;subst h
    obtain⟨l1,l2⟩:=qc7 h2
    refine⟨by simp [l1],fun i a b ha hb=>?_⟩
    cases i with
    | zero=>simp at ha hb;subst ha;subst hb;exact h1
    | succ i=>exact l2 i a b (by simpa using ha) (by simpa using hb)
   ·cases h
theorem refss_get {l:List IV}: ∀ {i:Nat} {x:IV},l[i]? =some x→ ∀b∈refs x,b∈qaK l:=by
 induction l with
 | nil=>intro i x h;simp at h
 | cons y l ih=>
   intro i x h b hb
   simp only [qaK,List.mem_append]
   cases i with
   | zero=>simp at h;subst h;exact .inl hb
   | succ i=>exact .inr (ih (by simpa using h) b hb)
theorem qfF {G:Nat→Option IBlk} (x:IV): ∀y ids,frz G x=some y→(∀b∈refs x,b∈ids)→Fz G ids x y∧bel 0 y:=by
 apply IV.rec (motive_1:=fun x=> ∀y ids,frz G x=some y→(∀b∈refs x,b∈ids)→Fz G ids x y∧bel 0 y)
  (motive_2:=fun l=> ∀x∈l,∀y ids,frz G x=some y→(∀b∈refs x,b∈ids)→Fz G ids x y∧bel 0 y)
 ·intro x y ids h _;simp only [frz,Option.some.injEq] at h;subst h;exact⟨.refl _,trivial⟩
 ·intro b g off len y ids h hr
  simp only [frz] at h
  split at h
  ·rename_i sz g' rows hb
   split at h
   ·rename_i e;subst e
    simp only [Option.map_eq_some_iff] at h
    obtain⟨ps,hp,rfl⟩:=h
    exact⟨.ref b g off len sz rows ps hb (hr b (by simp [refs])) (qnI hp),trivial⟩
   ·cases h
  ·cases h
 ·intro b g r j y ids h hr
  simp only [frz] at h
  split at h
  ·rename_i sz g' rows hb
   split at h
   ·rename_i e;subst e
    split at h
    ·rename_i row hrow
     simp only [Option.map_eq_some_iff] at h
     obtain⟨ps,hp,rfl⟩:=h
     exact⟨.ptr b g r j sz rows row ps hb (hr b (by simp [refs])) hrow (qie hp),trivial⟩
    ·cases h
   ·cases h
  ·cases h
 ·intro b y ids h;simp [frz] at h
 ·intro fn f c i1 i2 y ids h hr
  simp only [frz] at h
  split at h
  ·rename_i g d h1 h2
   cases h
   obtain⟨l1,l2⟩:=qc7 h1
   obtain⟨k1,k2⟩:=qc7 h2
   simp only [refs,List.mem_append] at hr
   refine⟨.clo fn f g c d l1 k1 (fun i a b ha hb=>(i1 a (List.mem_of_getElem? ha) b ids (l2 i a b ha hb) fun c hc=>hr c (.inl (refss_get ha c hc))).1)
    (fun i a b ha hb=>(i2 a (List.mem_of_getElem? ha) b ids (k2 i a b ha hb) fun c hc=>hr c (.inr (refss_get ha c hc))).1),bels_of fun i b hb=>?_,bels_of fun i b hb=>?_⟩
   ·have hlt:=qab hb
    have ha:=List.getElem?_eq_getElem (show i < f.length by omega)
    exact(i1 _ (List.mem_of_getElem? ha) b ids (l2 i _ b ha hb) fun c hc=>hr c (.inl (refss_get ha c hc))).2
   ·have hlt:=qab hb
    have ha:=List.getElem?_eq_getElem (show i < c.length by omega)
    exact(i2 _ (List.mem_of_getElem? ha) b ids (k2 i _ b ha hb) fun c hc=>hr c (.inr (refss_get ha c hc))).2
  ·cases h
 ·intro cs ih y ids h hr
  simp only [frz,Option.map_eq_some_iff] at h
  obtain⟨ys,hy,rfl⟩:=h
  obtain⟨l1,l2⟩:=qc7 hy
  refine⟨.agg cs ys l1 fun i a b ha hb=>(ih a (List.mem_of_getElem? ha) b ids (l2 i a b ha hb) fun c hc=>hr c (refss_get ha c hc)).1,bels_of fun i b hb=>?_⟩
  have hlt:=qab hb
  have ha:=List.getElem?_eq_getElem (show i < cs.length by omega)
  exact(ih _ (List.mem_of_getElem? ha) b ids (l2 i _ b ha hb) fun c hc=>hr c (refss_get ha c hc)).2
 ·intro cs ih y ids h hr
  simp only [frz,Option.map_eq_some_iff] at h
  obtain⟨ys,hy,rfl⟩:=h
  obtain⟨l1,l2⟩:=qc7 hy
  refine⟨.tup cs ys l1 fun i a b ha hb=>(ih a (List.mem_of_getElem? ha) b ids (l2 i a b ha hb) fun c hc=>hr c (refss_get ha c hc)).1,bels_of fun i b hb=>?_⟩
  have hlt:=qab hb
  have ha:=List.getElem?_eq_getElem (show i < cs.length by omega)
  exact(ih _ (List.mem_of_getElem? ha) b ids (l2 i _ b ha hb) fun c hc=>hr c (refss_get ha c hc)).2
 ·intro y ids h;simp [frz] at h
 ·intro x hx;cases hx
 ·intro x l i1 i2 z hz
  rcases List.mem_cons.1 hz with rfl | hz
  ·exact i1
  ·exact i2 z hz
def geAll (n:Nat):List Nat→Prop
 | []=>True
 | b::r=>n≤b∧geAll n r
theorem geAll_mem {n:Nat}: ∀ {l:List Nat},geAll n l→ ∀b∈l,n≤b
 | [],_,b,hb=>by cases hb
 | c::r,h,b,hb=>by rcases List.mem_cons.1 hb with rfl | hb;exact h.1;exact geAll_mem h.2 b hb
theorem leave_frz {h:IH} {S:qaa} {x y:IV} (hd:S.d= []) (hnx:h.nx≤S.nx) (hl:geAll h.nx (S.l.map (·.1))) (hx:geAll h.nx (refs x)) (hf:frz (look (S.l++h.m)) x=some y):qcl h (refs x) S x y h.nx []:=by
 obtain⟨h1,h2⟩:=qfF x y (refs x) hf (fun b hb=>hb)
 exact⟨⟨rfl,rfl, .inl hd,Nat.le_refl _,hnx,by simp,by simp,fun p hp=> .inl (geAll_mem hl _ (List.mem_map_of_mem hp)),fun b hb=>⟨geAll_mem hx b hb,by simp⟩⟩,h1, .inr (bel_mono (Nat.zero_le _) _ h2)⟩
def endP (P:Program) (fn:Func) (h:IH) (Q:IV→Prop) (S:qaa):Prop:=
 qaq (ires P S (S.l++h.m) fn.results.toList) (fun x=>qaq (frz (look (S.l++h.m)) x) (fun y=>geAll h.nx (refs x)∧Q y) False) False
theorem qla {fn:Func} {h:IH} {Q:IV→Prop} {S:qaa} (e:Exit) (he:e= .normal∨e= .ret) (hd:S.d= []) (hnx:h.nx≤S.nx) (hl:geAll h.nx (S.l.map (·.1)))
  (hx:endP P fn h Q S):qeI P fn h (fun r nx l=> ∃y,r= .ret y∧Q y∧nx=h.nx∧l= []) e S:=by
 unfold endP at hx
 cases hi:ires P S (S.l++h.m) fn.results.toList with
 | none=>rw [hi] at hx;exact hx.elim
 | some x=>
   rw [hi,qaj] at hx
   cases hf:frz (look (S.l++h.m)) x with
   | none=>rw [hf] at hx;exact hx.elim
   | some y=>
     rw [hf,qaj] at hx
     rcases he with rfl | rfl
     ·exact .norm S x y _ h.nx [] hd hi (leave_frz hd hnx hl hx.1 hf) ⟨y,rfl,hx.2,rfl,rfl⟩
     ·exact .ret S x y _ h.nx [] hd hi (leave_frz hd hnx hl hx.1 hf) ⟨y,rfl,hx.2,rfl,rfl⟩
def EndP (P:Program) (fn:Func) (h:IH) (Q:IV→Prop):Exit→qaa→Prop
 | .normal,S=>S.d= []∧h.nx≤S.nx∧geAll h.nx (S.l.map (·.1))∧endP P fn h Q S
 | .ret,S=>S.d= []∧h.nx≤S.nx∧geAll h.nx (S.l.map (·.1))∧endP P fn h Q S
 | _,_=>False
section
variable {fn:Func} {h:IH} {Q:IV→Prop} {N:Nat} {s:List (Nat × IV)} {d:List IDef} {nx:Nat} {l:List (Nat × IBlk)}
@[go_sem ↓] theorem qsr:EndP P fn h Q .normal ⟨N,s,d,nx,l⟩=(d= []∧h.nx≤nx∧geAll h.nx (l.map (·.1))∧endP P fn h Q ⟨N,s,d,nx,l⟩):=(rfl)
@[go_sem ↓] theorem EndP_ret:EndP P fn h Q .ret ⟨N,s,d,nx,l⟩=(d= []∧h.nx≤nx∧geAll h.nx (l.map (·.1))∧endP P fn h Q ⟨N,s,d,nx,l⟩):=(rfl)
@[go_sem ↓] theorem endP_eq:endP P fn h Q ⟨N,s,d,nx,l⟩=
  qaq (ires P ⟨N,s,d,nx,l⟩ (l++h.m) fn.results.toList) (fun x=>qaq (frz (look (l++h.m)) x) (fun y=>geAll h.nx (refs x)∧Q y) False) False:=(rfl)
end
theorem PCall.weak {f:FuncId} {args args':List IV} {R:List (Nat × IBlk)} {x:IV} (h:PCall P f args' R x) (hw:wks args args'):PCall P f args R x:=by
 intro hp hR M vs hM hl hr
 obtain⟨e1,e2⟩:=qca hw
 refine h hp hR M vs hM (by omega) fun i y v hy hv=>?_
 have hlt:=qab hy
 have hx:=List.getElem?_eq_getElem (show i < args.length by omega)
 exact(hr i _ v hx hv).wk (e2 i _ y hx hy)
attribute [go_sem] ism isms psm plsm pssm qgx qhD qgp pvs2 frz frzs refs qaK geAll Live
end Go.Idl
/-
 Lists told as rows.
-/
namespace Go.Idl
def pr {α:Type} (f:α→List PV) (l:List α):List (List PV):=l.map f
def ir {α:Type} (f:α→List PV) (l:List α):List (List IV):=l.map fun a=>(f a).map .p
section
variable {α:Type} {f:α→List PV} {l l':List α} {i k:Nat} {a:α}
@[go_sem] theorem qpV:(pr f l).length=l.length:=by simp [pr]
@[go_sem] theorem ir_length:(ir f l).length=l.length:=by simp [ir]
theorem qat (h:i < l.length):(pr f l)[i]? =some (f l[i]):=by simp [pr,h]
theorem qap (h:i < l.length):(ir f l)[i]? =some ((f l[i]).map .p):=by simp [ir,h]
theorem qdJ (h:l[i]? =some a):(pr f l)[i]? =some (f a):=by simp [pr,h]
theorem qiS (h:l[i]? =some a):(ir f l)[i]? =some ((f a).map .p):=by simp [ir,h]
@[go_sem] theorem pr_map:(pr f l).map (·.map .p)=ir f l:=by simp [pr,ir]
@[go_sem] theorem qnJ: ∀ {x:List PV},pvs (x.map .p)=some x
  | []=>rfl
  | x::r=>by simp [pvs,qnJ]
@[go_sem] theorem pvs2_ir:pvs2 (ir f l)=some (pr f l):=by
  induction l with
  | nil=>rfl
  | cons x l ih=>
    have:ir f (x::l)=(f x).map .p::ir f l:=rfl
    rw [this]
    simp only [pvs2,qnJ,ih]
    rfl
theorem ir_snoc:ir f (l++ [a])=ir f l++ [(f a).map .p]:=by simp [ir]
@[go_sem] theorem ir_append:ir f l++ir f l'=ir f (l++l'):=by simp [ir]
@[go_sem] theorem pr_drop:(pr f l).drop k=pr f (l.drop k):=by simp [pr]
@[go_sem] theorem pr_take:(pr f l).take k=pr f (l.take k):=by simp [pr]
@[go_sem] theorem ir_drop:(ir f l).drop k=ir f (l.drop k):=by simp [ir]
@[go_sem] theorem ir_take:(ir f l).take k=ir f (l.take k):=by simp [ir]
@[go_sem] theorem ir_nil:ir f []= []:=rfl
@[go_sem] theorem qpW:pr f []= []:=rfl
@[go_sem] theorem pr_eq_nil:pr f l= []↔l= []:=by simp [pr]
theorem qlk:(ir f l).set i ((f a).map .p)=ir f (l.set i a):=by simp [ir,List.map_set]
end
def eI (n:Int):List PV:= [.sc (.int .i64 n)]
def eB (b:Bool):List PV:= [.sc (.bool b)]
def eII (p:Int × Int):List PV:= [.sc (.int .i64 p.1), .sc (.int .i64 p.2)]
@[go_sem] theorem snocI {l:List Int} {n:Int}:ir eI l++ [[.p (.sc (.int .i64 n))]]=ir eI (l++ [n]):=by simp [ir,eI]
@[go_sem] theorem take_snoc {α:Type} {l:List α} {a:α}:List.take (l.length+1) (l++ [a])=l++ [a]:=List.take_of_length_le (by simp)
abbrev lI (l:List Int):IV:= .p (.imm 1 (pr eI l))
abbrev lII (l:List (Int × Int)):IV:= .p (.imm 2 (pr eII l))
theorem w64 {n:Int} (h: -9223372036854775808≤n∧n≤9223372036854775807):IntKind.i64.wrap n=n:=by rw [IntKind.wrap_i64];omega
theorem qba {α:Type} {l:List α} {i:Nat} (h:i < l.length):l.drop i=l[i]::l.drop (i+1):=List.drop_eq_getElem_cons h
theorem beqT {x y:Int} (h:x=y):(x==y)=true:=by simp [h]
theorem beqF {x y:Int} (h: ¬x=y):(x==y)=false:=by simp [h]
theorem bneT {x y:Int} (h: ¬x=y):(x != y)=true:=by simp [h]
theorem bneF {x y:Int} (h:x=y):(x != y)=false:=by simp [h]
@[go_sem] theorem bbT {b:Bool}:(b==true)=b:=by cases b<;>rfl
@[go_sem] theorem bbF {b:Bool}:(b==false)= !b:=by cases b<;>rfl
attribute [go_sem] lI lII
end Go.Idl
/-
 Deferred calls, and what they recover.
-/
namespace Go.Idl
variable {P:Program} {h0:IH}
inductive qaB where
 | ret
 | pan (ch:List PanicEntry)
def toFM:qaB→FrameMode
 | .ret=> .returning
 | .pan ch=> .panicking ch
def qb7:qaB→qaB
 | .pan ({recovered:=true, .. }::older)=>match older.dropWhile (!·.goexit) with
   | []=> .ret
   | rest=> .pan rest
 | m=>m
def qeC (u:qaB) (ch:List PanicEntry):qaB:=match u with
 | .pan old=> .pan (ch++old)
 | _=> .pan ch
theorem qrb {u v:qaB} (h:toFM u=toFM v):u=v:=by
 cases u<;>cases v<;>simp_all [toFM]
theorem toFM_settle (u:qaB):toFM (qb7 u)=settle (toFM u):=by
 cases u with
 | ret=>rfl
 | pan ch=>
   cases ch with
   | nil=>rfl
   | cons p older=>
     obtain⟨v,r,g⟩:=p
     cases r with
     | false=>rfl
     | true=>
       simp only [qb7,toFM,settle]
       cases older.dropWhile (!·.goexit)<;>rfl
theorem toFM_raised (u:qaB) (ch:List PanicEntry):toFM (qeC u ch)=raised (toFM u) ch:=by cases u<;>rfl
/-! ### the body of a deferred call -/
def ICodeS (P:Program) (h0:IH) (c:Code) (S:qaa) (u:qaB) (Q:Exit→qaB→qaa→Prop):Prop:=
 ∀M0,HRel h0.nx h0.m M0→ ∀M a,qae M0 M→SRel h0 S M a→ ∀(c₀:Frame) (cs:List Frame),c₀.mode=toFM u→
  c.wpS P (fun e a' cs' w'=> ∃u',cs'= {c₀ with mode:=toFM u'}::cs∧qcA h0 M0 (fun e S'=>Q e u' S') e a' w') a (c₀::cs) M.w
theorem qdj {c:Code} {S:qaa} {u:qaB} {Q:Exit→qaB→qaa→Prop} (h:qbd P h0 c S fun e S'=>Q e u S'):ICodeS P h0 c S u Q:=by
 intro M0 hM0 M a hs hr c₀ cs hu
 refine wpS_of_wp (wp_mono (wpIn_wide.1 (h M0 hM0 M a hs hr none (.inl rfl))) fun e a' w' hp=>⟨u,?_,hp⟩)
 rw [←hu]
theorem qcJ {c:Code} {Q Q':Exit→Act→List Frame→World→Prop} {a:Act} {cs:List Frame} {w:World} (h:c.wpS P Q a cs w) (hq: ∀e a cs w,Q e a cs w→Q' e a cs w):c.wpS P Q' a cs w:=
 fun b k hb hr=>let ⟨e,a',cs',w',q,r⟩:=h b k hb hr;⟨e,a',cs',w',hq _ _ _ _ q,r⟩
theorem qd6 {x y:Code} {S:qaa} {u:qaB} {Q:Exit→qaB→qaa→Prop} (h:ICodeS P h0 x S u fun e u' S'=>match e with | .normal=>ICodeS P h0 y S' u' Q | e=>Q e u' S'):ICodeS P h0 (.seq x y) S u Q:=by
 intro M0 hM0 M a hs hr c₀ cs hu
 refine wpS_seq (qcJ (h M0 hM0 M a hs hr c₀ cs hu) ?_)
 rintro e a' cs' w' ⟨u',rfl,M',S',rfl,h2,h3,h4⟩
 cases e with
 | normal=>
   refine qcJ (h4 M0 hM0 M' a' h2 h3 {c₀ with mode:=toFM u'} cs rfl) ?_
   rintro e a2 cs2 w2 ⟨u2,rfl,hp⟩
   exact⟨u2,rfl,hp⟩
 | exit i=>exact⟨u',rfl,M',S',rfl,h2,h3,h4⟩
 | goto i=>exact⟨u',rfl,M',S',rfl,h2,h3,h4⟩
 | ret=>exact⟨u',rfl,M',S',rfl,h2,h3,h4⟩
 | panic c=>exact⟨u',rfl,M',S',rfl,h2,h3,h4⟩
 | outgrown=>exact⟨u',rfl,M',S',rfl,h2,h3,h4⟩
theorem upon_noout {o:Oper} {a:Act} {next next':Act→World→Prop} {Q Q':Exit→Act→World→Prop} {r:Result Next} (h:o.upon P a next Q r) (hn: ∀a w,next a w→next' a w) (hq: ∀e a w,Q e a w→Q' e a w):o.upon P a next' Q' r:=by
 have hl:LetsOut Q→LetsOut Q':=fun⟨a,w,q⟩=>⟨a,w,hq _ _ _ q⟩
 unfold Oper.upon at h ⊢
 split at h
 ·exact hn _ _ h
 ·exact hn _ _ h
 ·exact hn _ _ h
 ·refine h.mono fun e w hh=>?_
  cases e with
  | returned v=>exact hn _ _ hh
  | panicked ch=>exact hq _ _ _ hh
  | outgrown=>exact hl hh
 ·exact h.mono fun v w hh=>hn _ _ hh
 ·exact hq _ _ _ h
 ·exact h.elim
theorem qne {ops:Array Oper} {Q:Exit→Act→List Frame→World→Prop} {cs:List Frame} (hno: ∀a w,¬Q .outgrown a cs w): ∀(l:List Nat) (a:Act) (w:World),wpOps P ops (fun e a w=>Q e a cs w) l a w→wpOpsS P ops Q l a cs w:=by
 intro l
 induction l with
 | nil=>exact fun a w h=>h
 | cons i rest ih=>
   intro a w h
   simp only [wpOps] at h
   simp only [wpOpsS]
   cases ho:ops[i]? with
   | none=>rw [ho] at h;exact ih _ _ h
   | some o=>
     rw [ho] at h
     simp only at h ⊢
     by_cases hw:Region.wanted o (yielded ops a.tmps)=true
     ·rw [if_pos hw] at h ⊢
      rcases h with h | ⟨_,a',w',hq⟩
      ·unfold Oper.wp at h
       generalize hr:(execOp a.eval o).run P w=r at h
       cases r with
       | ok n w'=>
         cases n<;>first
          | exact upon_noout h (fun a w h=>ih a w h) (fun _ _ _ h=>h)
          | exact h.elim
       | halt x w'=>exact upon_noout h (fun a w h=>ih a w h) (fun _ _ _ h=>h)
      ·exact absurd hq (hno a' w')
     ·rw [if_neg hw] at h ⊢
      exact ih _ _ h
def qaU:qaB→Value × qaB
 | .pan ({v:=v,recovered:=false,goexit:=false}::older)=>(v, .pan ({v:=v,recovered:=true}::older))
 | u=>(.nilIface,u)
theorem qj2 {u:qaB} {c₀:Frame} {cs:List Frame} (hu:c₀.mode=toFM u):
  (match recoverD (c₀::cs) with | some p=>p | none=>(.nilIface,c₀::cs))=((qaU u).1, {c₀ with mode:=toFM (qaU u).2}::cs):=by
 have hc:({c₀ with mode:=toFM u}:Frame)=c₀:=by rw [←hu]
 cases u with
 | ret=>simp only [recoverD,hu,toFM,qaU];rw [←hc];rfl
 | pan ch=>
   cases ch with
   | nil=>simp only [recoverD,hu,toFM,qaU];rw [←hc];rfl
   | cons p older=>
     obtain⟨v,r,g⟩:=p
     cases r<;>cases g
     ·simp only [recoverD,hu,toFM,qaU]
     ·simp only [recoverD,hu,toFM,qaU];rw [←hc];rfl
     ·simp only [recoverD,hu,toFM,qaU];rw [←hc];rfl
     ·simp only [recoverD,hu,toFM,qaU];rw [←hc];rfl
theorem qdv {id:Nat} {dst:Option Tmp} {ts:Array TypeId} {ty:TypeId} {pos:String} {aft:Array Edge} {rest:List Oper} {S:qaa} {u:qaB} {Q:Exit→qaB→qaa→Prop} (hd:qaE S dst=true)
  (hno: ∀S,¬Q .outgrown (qaU u).2 S) (hnc:rest.all ncOp=true)
  (h:IOps P h0 ⟨⟨dst, .call {callee:= .builtin .recover,args:=#[],argTypes:=ts},ty,pos,aft,none⟩::rest⟩ rest (S.put dst (.p (.sc (qaU u).1)) S.nx []) fun e S'=>Q e (qaU u).2 S'):
  ICodeS P h0 (.region id ⟨⟨dst, .call {callee:= .builtin .recover,args:=#[],argTypes:=ts},ty,pos,aft,none⟩::rest⟩ false) S u Q:=by
 intro M0 hM0 M a hs hr c₀ cs hu
 refine wpS_region ?_
 have hw: ∀f,Region.wanted (⟨dst, .call {callee:= .builtin .recover,args:=#[],argTypes:=ts},ty,pos,aft,none⟩:Oper) f=true:=fun _=>rfl
 have hrun:(execOp a.eval (⟨dst, .call {callee:= .builtin .recover,args:=#[],argTypes:=ts},ty,pos,aft,none⟩:Oper)).run P M.w= .ok .recover M.w:=by
  simp [execOp,resolve,invoke,builtin]
 rw [List.range_eq_range',show(⟨⟨dst, .call {callee:= .builtin .recover,args:=#[],argTypes:=ts},ty,pos,aft,none⟩::rest⟩:Array Oper).size=rest.length+1 from rfl,List.range'_succ]
 simp only [wpOpsS,List.getElem?_toArray,List.getElem?_cons_zero]
 rw [if_pos (hw _),hrun]
 have hrec:=qj2 (cs:=cs) hu
 have key:=wpList_of_wd _ _ _ hnc (h M0 hM0 M (a.put dst (qaU u).1) hs (hr.step (.refl M) hd (.sc M _) hr.heap) none (.inl rfl))
 have go:wpOpsS P ⟨⟨dst, .call {callee:= .builtin .recover,args:=#[],argTypes:=ts},ty,pos,aft,none⟩::rest⟩ (fun e a' cs' w'=> ∃u',cs'= {c₀ with mode:=toFM u'}::cs∧qcA h0 M0 (fun e S'=>Q e u' S') e a' w') (List.range' (0+1) rest.length) (a.put dst (qaU u).1) ({c₀ with mode:=toFM (qaU u).2}::cs) M.w:=by
  refine qne (fun a w hout=>?_) _ _ _ ?_
  ·obtain⟨u',e,M',S',_,_,_,hq⟩:=hout
   have:toFM (qaU u).2=toFM u':=by
    have:=(List.cons.inj e).1
    exact congrArg Frame.mode this
   have hu':=qrb this
   subst hu'
   exact hno S' hq
  ·rw [wpOps_eq_wpList rest (0+1) (by intro j;simp [Nat.add_comm])]
   have mono: ∀(l:List Oper) a w,wpList P ⟨⟨dst, .call {callee:= .builtin .recover,args:=#[],argTypes:=ts},ty,pos,aft,none⟩::rest⟩ (qcA h0 M0 fun e S'=>Q e (qaU u).2 S') l a w→wpList P ⟨⟨dst, .call {callee:= .builtin .recover,args:=#[],argTypes:=ts},ty,pos,aft,none⟩::rest⟩ (fun e a w=> ∃u',({c₀ with mode:=toFM (qaU u).2}:Frame)::cs= {c₀ with mode:=toFM u'}::cs∧qcA h0 M0 (fun e S'=>Q e u' S') e a w) l a w:=by
    intro l
    induction l with
    | nil=>exact fun a w h=>⟨_,rfl,h⟩
    | cons o l ih=>
      intro a w h
      simp only [wpList] at h ⊢
      split at h
      ·rename_i hw
       rw [if_pos hw]
       rcases h with h | ⟨h1,a',w',hq⟩
       ·exact .inl (upon_noout h (fun a w h=>ih a w h) (fun e a w h=>⟨_,rfl,h⟩))
       ·exact .inr ⟨h1,a',w',_,rfl,hq⟩
      ·rename_i hw
       rw [if_neg hw]
       exact ih _ _ h
   exact mono _ _ _ key
 cases hq:recoverD (c₀::cs) with
 | none=>
   rw [hq] at hrec
   simp only [Prod.mk.injEq] at hrec
   simp only
   rw [hrec.1,hrec.2]
   exact go
 | some p=>
   rw [hq] at hrec
   obtain⟨v,cs'⟩:=p
   simp only [Prod.mk.injEq] at hrec
   obtain⟨rfl,rfl⟩:=hrec
   exact go
end Go.Idl
namespace Go.Idl
variable {P:Program} {h0:IH}
/-! ### deferred calls -/
def qkm (P:Program) (f:FuncId) (args:List IV) (h:IH) (u:qaB) (Q:IEnd→qaB→Nat→List (Nat × IBlk)→Prop):Prop:=
 ∀(M:Mem) (vs:List Value),HRel h.nx h.m M→vs.length=args.length→(∀(i:Nat) (x:IV) (v:Value),args[i]? =some x→vs[i]? =some v→VRel M x v)→
  CallsD P f ⟨vs⟩ (toFM u) M.w fun e u'' w'=> ∃M' nx' l' r u',u''=toFM u'∧M'.w=w'∧qae M M'∧HRel nx' (l'++h.m) M'∧qbF M' r e∧Q r u' nx' l'
inductive FinD (P:Program) (fn:Func) (h:IH) (Q:IEnd→qaB→Nat→List (Nat × IBlk)→Prop):Exit→qaB→qaa→Prop where
 | norm (u:qaB) (S:qaa) (x:IV) (nx':Nat) (l':List (Nat × IBlk)) (hd:S.d= []) (hx:ires P S (S.l++h.m) fn.results.toList=some x)
   (hl:qcl h [] S x x nx' l') (hq:Q (.ret x) u nx' l'):FinD P fn h Q .normal u S
 | ret (u:qaB) (S:qaa) (x:IV) (nx':Nat) (l':List (Nat × IBlk)) (hd:S.d= []) (hx:ires P S (S.l++h.m) fn.results.toList=some x)
   (hl:qcl h [] S x x nx' l') (hq:Q (.ret x) u nx' l'):FinD P fn h Q .ret u S
 | pan (u:qaB) (S:qaa) (ch:List PanicEntry) (nx':Nat) (l':List (Nat × IBlk)) (hd:S.d= []) (hl:Sub h [] S {S with s:= [],nx:=nx',l:=l'})
   (hq:Q (.pan ch) u nx' l'):FinD P fn h Q (.panic ch) u S
theorem icallD_of {f:FuncId} {fn:Func} {c:Code} {args:List IV} {h:IH} {u:qaB} {Q:IEnd→qaB→Nat→List (Nat × IBlk)→Prop} (hf:P.funcs[f]? =some fn) (hb:fn.body=some c) (hn:args.length≤fn.ntmps)
  (hc:ICodeS P h c (start fn.ntmps args h) u (FinD P fn h Q)):qkm P f args h u Q:=by
 intro M vs hM hl hr
 refine callsD_of_wpS hf hb fun c₀ cs hu=>qcJ (hc M hM M {tmps:=(⟨vs⟩:Array Value)++Array.replicate (fn.ntmps - (⟨vs⟩:Array Value).size) undef,defers:= []} (.refl M) ⟨by simpa [start] using hM,?_,fun i x hi=>?_,trivial⟩ c₀ cs hu) ?_
 ·simp [start,hl];omega
 ·obtain⟨_,h2⟩:=qdq args 0 i x hi
  have hlt:=qab h2
  simp only [Nat.sub_zero] at h2 hlt
  refine⟨vs[i]'(by omega),?_,hr i x _ h2 (List.getElem?_eq_getElem (by omega))⟩
  simp only
  rw [Array.getElem?_append]
  simp only [List.size_toArray]
  rw [if_pos (by omega)]
  simp [List.getElem?_eq_getElem (show i < vs.length by omega)]
 ·rintro e a' cs' w' ⟨u',rfl,M',S',rfl,st,hrel,hq⟩
  have nod:S'.d= []→a'.defers= []:=fun hd=>by
   have:=hrel.defs
   rw [hd] at this
   cases hds:a'.defers with
   | nil=>rfl
   | cons d ds=>rw [hds] at this;exact this.elim
  have fin: ∀x nx' l',S'.d= []→ires P S' (S'.l++h.m) fn.results.toList=some x→qcl h [] S' x x nx' l'→Q (.ret x) u' nx' l'→
    a'.defers= []∧ ∃u2,({c₀ with mode:=toFM u'}:Frame)::cs= {c₀ with mode:=u2}::cs∧ ∃v,(results fn a'.tmps).run P M'.w= .ok v M'.w∧ ∃M'' nx' l' r u3,u2=toFM u3∧M''.w=M'.w∧qae M M''∧HRel nx' (l'++h.m) M''∧qbF M'' r (.returned v)∧Q r u3 nx' l':=by
   intro x nx' l' hd hx hle hqq
   obtain⟨v,v1,v2⟩:=run_ires (P:=P) hrel hx
   obtain⟨M'',k1,k2,k3,k4⟩:=qb9 hle.sub hM st hrel
   exact⟨nod hd,_,rfl,v,v1,M'',nx',l', .ret x,u',rfl,k1,k2,k3.heap,⟨v,rfl,k4 x x v v2 hle.fz hle.bel⟩,hqq⟩
  cases hq with
  | norm _ _ x nx' l' hd hx hl hq=>exact fin x nx' l' hd hx hl hq
  | ret _ _ x nx' l' hd hx hl hq=>exact fin x nx' l' hd hx hl hq
  | pan _ _ ch nx' l' hd hl hq=>
    obtain⟨M'',k1,k2,k3,k4⟩:=qb9 hl hM st hrel
    exact⟨nod hd,_,rfl,M'',nx',l', .pan ch,u',rfl,k1,k2,k3.heap,rfl,hq⟩
def qbb (P:Program) (fn:Func) (h0:IH) (Q:IEnd→Nat→List (Nat × IBlk)→Prop) (S:qaa) (ds:List IDef) (u:qaB):Prop:=
 ∀M0,HRel h0.nx h0.m M0→ ∀M a,qae M0 M→SRel h0 {S with d:=ds} M a→
  Leaves P fn a.tmps (fun e w'=> ∃M' nx' l' r,M'.w=w'∧qae M0 M'∧HRel nx' (l'++h0.m) M'∧qbF M' r e∧Q r nx' l') a.defers (toFM u) M.w
theorem qk5 {h0:IH} {S:qaa} {M:Mem} {a:Act} (h:SRel h0 {S with d:= []} M a):a.defers= []:=by
 have:=h.defs
 cases hds:a.defers with
 | nil=>rfl
 | cons d ds=>rw [hds] at this;exact this.elim
theorem qhZ {fn:Func} {Q:IEnd→Nat→List (Nat × IBlk)→Prop} {S:qaa} {x y:IV} {ids:List Nat} {nx':Nat} {l':List (Nat × IBlk)} (hx:ires P {S with d:= []} (S.l++h0.m) fn.results.toList=some x)
  (hl:qcl h0 ids {S with d:= []} x y nx' l') (hq:Q (.ret y) nx' l'):qbb P fn h0 Q S [] .ret:=by
 intro M0 hM0 M a hs hr
 rw [qk5 hr]
 obtain⟨v,v1,v2⟩:=run_ires (P:=P) hr hx
 obtain⟨M'',k1,k2,k3,k4⟩:=qb9 hl.sub hM0 hs hr
 exact⟨v,v1,M'',nx',l', .ret y,k1,k2,k3.heap,⟨v,rfl,k4 x y v v2 hl.fz hl.bel⟩,hq⟩
theorem leaves_pan {fn:Func} {Q:IEnd→Nat→List (Nat × IBlk)→Prop} {S:qaa} {ch:List PanicEntry} {ids:List Nat} {nx':Nat} {l':List (Nat × IBlk)}
  (hl:Sub h0 ids {S with d:= []} {S with d:= [],s:= [],nx:=nx',l:=l'}) (hq:Q (.pan ch) nx' l'):qbb P fn h0 Q S [] (.pan ch):=by
 intro M0 hM0 M a hs hr
 rw [qk5 hr]
 obtain⟨M'',k1,k2,k3,k4⟩:=qb9 hl hM0 hs hr
 exact⟨M'',nx',l', .pan ch,k1,k2,k3.heap,rfl,hq⟩
theorem leaves_call {fn:Func} {Q:IEnd→Nat→List (Nat × IBlk)→Prop} {S:qaa} {f:FuncId} {cap args:List IV} {ds:List IDef} {u:qaB} (hn:fnOk P f=true)
  (h:qkm P f (args++cap) ⟨S.nx,S.l++h0.m⟩ u fun r u' nx' l'=>qbb P fn h0 Q {S with nx:=nx',l:=l'++S.l} ds (match r with | .ret _=>qb7 u' | .pan ch=>qeC u' ch)):
  qbb P fn h0 Q S (⟨.func f,cap,args⟩::ds) u:=by
 intro M0 hM0 M a hs hr
 have hdefs:=hr.defs
 cases hds:a.defers with
 | nil=>rw [hds] at hdefs;exact hdefs.elim
 | cons d ds'=>
   rw [hds] at hdefs
   obtain⟨⟨vc,va,rfl,l1,l2,r1,r2⟩,hrest⟩:=hdefs
   refine⟨by cases u<;>simp [toFM], .func f,⟨vc⟩,f,⟨va++vc⟩,rfl,?_,?_⟩
   ·simp only [invoke]
    rw [qbW hn]
    simp
   ·have hc:=h M (va++vc) hr.heap (by simp only [List.length_append,l1,l2]) (qbG l2 r2 r1)
    refine hc.mono ?_
    rintro e u'' w' ⟨M',nx',l',r,u',rfl,rfl,st,hh,he,hq⟩
    have hr':SRel h0 { {S with nx:=nx',l:=l'++S.l} with d:=ds} M' {a with defers:=ds'}:=
     ⟨by simp only [List.append_assoc];exact hh,hr.size,fun i x hi=>(by obtain⟨v,h1,h2⟩:=hr.slot i x hi;exact⟨v,h1,h2.step st⟩),hrest.step st⟩
    have hL:=hq M0 hM0 M' {a with defers:=ds'} (hs.trans st) hr'
    cases r with
    | ret x=>
      obtain⟨v,rfl,_⟩:=he
      simp only [←toFM_settle]
      exact hL
    | pan ch=>
      simp only [qbF] at he
      subst he
      simp only [←toFM_raised]
      exact hL
theorem qhP {f:FuncId} {fn:Func} {c:Code} {args:List IV} {h:IH} {Q:IEnd→Nat→List (Nat × IBlk)→Prop} (hf:P.funcs[f]? =some fn) (hb:fn.body=some c) (hn:args.length≤fn.ntmps)
  (hc:qbd P h c (start fn.ntmps args h) fun e S=>match e with
   | .normal=>qbb P fn h Q S S.d .ret
   | .ret=>qbb P fn h Q S S.d .ret
   | .panic ch=>qbb P fn h Q S S.d (.pan ch)
   | _=>False):qa5 P f args h Q:=by
 intro M vs hM hl hr
 refine calls_of_wp_defers hf hb (wp_mono (wpIn_wide.1 (hc M hM M {tmps:=(⟨vs⟩:Array Value)++Array.replicate (fn.ntmps - (⟨vs⟩:Array Value).size) undef,defers:= []} (.refl M) ⟨by simpa [start] using hM,?_,fun i x hi=>?_,trivial⟩ none (.inl rfl))) ?_)
 ·simp [start,hl];omega
 ·obtain⟨_,h2⟩:=qdq args 0 i x hi
  have hlt:=qab h2
  simp only [Nat.sub_zero] at h2 hlt
  refine⟨vs[i]'(by omega),?_,hr i x _ h2 (List.getElem?_eq_getElem (by omega))⟩
  simp only
  rw [Array.getElem?_append]
  simp only [List.size_toArray]
  rw [if_pos (by omega)]
  simp [List.getElem?_eq_getElem (show i < vs.length by omega)]
 ·rintro e a' w' ⟨M',S',rfl,st,hrel,hq⟩
  cases e with
  | normal=>exact hq M hM M' a' st hrel
  | ret=>exact hq M hM M' a' st hrel
  | panic ch=>exact hq M hM M' a' st hrel
  | exit id=>exact hq.elim
  | goto l=>exact hq.elim
  | outgrown=>exact hq.elim
def qfI (ρ:Operand→Option IV) (f:Operand) (args:List Operand):Option IDef:=
 match ρ f,qbr ρ args with
 | some (.p (.sc (.func (.func fn) ⟨[]⟩ ⟨[]⟩))),some zs=>some ⟨.func fn, [],zs⟩
 | some (.clo (.func fn) first cap),some zs=>some ⟨.func fn,cap,first++zs⟩
 | _,_=>none
theorem qhU {all:Array Oper} {o:Oper} {r:List Oper} {S:qaa} {Q:Exit→qaa→Prop} {f:Operand} {args:List Operand} {ts:Array TypeId} {x:IDef}
  (ho:o.op= .defer {callee:= .value f,args:=⟨args⟩,argTypes:=ts}) (hw:qai all S.s o=some true) (hc:qfI (ev S.s) f args=some x) (hd:qaE S o.dst=true)
  (h:IOps P h0 all r {S.put o.dst (.tup []) S.nx [] with d:=x::S.d} Q):IOps P h0 all (o::r) S Q:=by
 intro M0 hM0 M a hs hr ro hro
 refine wpListW_step (hro.mem (List.mem_cons_self ..)) fun K hK=>?_
 rw [if_pos (qa4 hr hw)]
 have key: ∃d:Deferred,(execOp a.eval o).run P M.w= .ok (.defer d) M.w∧DRel M x d:=by
  unfold qfI at hc
  split at hc
  ·rename_i fn zs hf ha
   cases hc
   have e:=(qaH hr.slot hf).sc_inv
   obtain⟨l1,l2⟩:=qbo (M:=M) (a:=a) ha fun y _ z hz=>qaH hr.slot hz
   refine⟨{target:= .fn (.func fn) #[],args:=⟨args.map a.eval⟩},?_,⟨[],args.map a.eval,rfl,rfl,l1,by simp,l2⟩⟩
   simp [execOp,ho,resolve,e,Deferred.ofValue]
  ·rename_i fn first cap zs hf ha
   cases hc
   have hv:=qaH hr.slot hf
   obtain⟨l1,l2⟩:=qbo (M:=M) (a:=a) ha fun y _ z hz=>qaH hr.slot hz
   generalize hq:a.eval f=q at hv
   cases hv with
   | clo fn first cap vf vc lf lc rf rc=>
     refine⟨{target:= .fn (.func fn) ⟨vc⟩,args:=⟨vf++args.map a.eval⟩},?_,⟨vc,vf++args.map a.eval,rfl,lc,by simp [lf,l1],rc,qbG lf rf l2⟩⟩
     simp [execOp,ho,resolve,hq,Deferred.ofValue]
  ·cases hc
 obtain⟨d,hrun,hdr⟩:=key
 unfold Oper.wp
 rw [hrun]
 refine hK _ _ (h M0 hM0 M _ hs ?_ ro hro.tl)
 have hst:=hr.step (W:= []) (nx:=S.nx) (.refl M) hd (qin M) hr.heap
 have e2:(({a with defers:=d::a.defers}:Act).put o.dst undef)= {a.put o.dst undef with defers:=d::(a.put o.dst undef).defers}:=by cases o.dst<;>rfl
 have e3:(a.put o.dst undef).defers=a.defers:=by cases o.dst<;>rfl
 rw [e2]
 refine⟨hst.heap,hst.size,hst.slot,?_⟩
 rw [e3]
 exact⟨hdr,hr.defs⟩
end Go.Idl
/-
 A call told at a part of the heap, as it is at any heap that has this part.
-/
namespace Go.Idl
variable {P:Program}
theorem PRel.own' {w:World} {own own':Nat→Prop} (h2: ∀c,own' c→own c) {x:PV} {v:Value} (h:PRel w own x v):PRel w own' x v:=
 h.step (Nat.le_refl _) fun c _ ho=>⟨rfl,fun h=>ho (h2 c h)⟩
mutual
def qbc (K:Nat→Prop):IV→Prop
 | .p _=>True
 | .ref b _ _ _=>K b
 | .ptr b _ _ _=>K b
 | .mp b=>K b
 | .clo _ f c=>qaN K f∧qaN K c
 | .agg cs=>qaN K cs
 | .tup cs=>qaN K cs
 | .dead=>True
def qaN (K:Nat→Prop):List IV→Prop
 | []=>True
 | x::r=>qbc K x∧qaN K r
end
theorem qaS {K:Nat→Prop}: ∀ {l:List IV} {i:Nat} {x:IV},qaN K l→l[i]? =some x→qbc K x
 | [],i,x,_,h=>by simp at h
 | y::l,0,x,hb,h=>by simp at h;subst h;exact hb.1
 | y::l,i+1,x,hb,h=>qaS hb.2 (by simpa using h)
def qbu (K:Nat→Prop):IBlk→Prop
 | .arr _ _ rows=> ∀row∈rows,qaN K row
 | .mp es=> ∀e∈es,qbc K e.2
 | .ob _ vs=>qaN K vs
theorem qen {K K':Nat→Prop} (h: ∀b,K b→K' b) (x:IV):qbc K x→qbc K' x:=by
 apply IV.rec (motive_1:=fun x=>qbc K x→qbc K' x) (motive_2:=fun l=>qaN K l→qaN K' l)
 ·intro x _;trivial
 ·intro b g off len hb;exact h b hb
 ·intro b g r j hb;exact h b hb
 ·intro b hb;exact h b hb
 ·intro fn f c i1 i2 hb;exact⟨i1 hb.1,i2 hb.2⟩
 ·intro cs ih hb;exact ih hb
 ·intro cs ih hb;exact ih hb
 ·intro _;trivial
 ·intro _;trivial
 ·intro x l i1 i2 hb;exact⟨i1 hb.1,i2 hb.2⟩
theorem qck {K K':Nat→Prop} (h: ∀b,K b→K' b): ∀ {l:List IV},qaN K l→qaN K' l
 | [],_=>trivial
 | x::r,hb=>⟨qen h x hb.1,qck h hb.2⟩
structure qg7 (K:Nat→Prop) (M M':Mem):Prop where
 w:M'.w=M.w
 A: ∀b,K b→M.H.A b→M'.H.A b
 G: ∀b,K b→M'.H.G b=M.H.G b
 β: ∀b,K b→M'.β b=M.β b
 own: ∀c,M'.own c→M.own c
theorem VRel.alike {K:Nat→Prop} {M M':Mem} (a:qg7 K M M') {x:IV} {v:Value} (h:VRel M x v):qbc K x→VRel M' x v:=by
 induction h with
 | p x v h=>exact fun _=> .p x v (by rw [a.w];exact h.own' a.own)
 | ref b g off len v hA hv h=>
   intro hk
   exact .ref b g off len v (a.A b hk hA) hv fun blk hb=>by rw [a.β b hk];rw [a.G b hk] at hb;exact h blk hb
 | ptr b g r j v hA hv h=>
   intro hk
   exact .ptr b g r j v (a.A b hk hA) hv fun blk hb=>by rw [a.β b hk];rw [a.G b hk] at hb;exact h blk hb
 | mp b v hA hv h=>
   intro hk
   exact .mp b v (a.A b hk hA) hv fun blk hb=>by rw [a.β b hk];rw [a.G b hk] at hb;exact h blk hb
 | clo fn first cap vf vc hf hc rf rc i1 i2=>exact fun hk=> .clo fn first cap vf vc hf hc (fun i x v hx hv=>i1 i x v hx hv (qaS hk.1 hx)) (fun i x v hx hv=>i2 i x v hx hv (qaS hk.2 hx))
 | agg cs vs hl h1 r ih=>exact fun hk=> .agg cs vs hl h1 fun i x v hx hv=>ih i x v hx hv (qaS hk hx)
 | tup cs vs hl r ih=>exact fun hk=> .tup cs vs hl fun i x v hx hv=>ih i x v hx hv (qaS hk hx)
 | dead v=>exact fun _=> .dead v
theorem BRel.alike {K:Nat→Prop} {M M':Mem} (a:qg7 K M M') {b:Nat} (hb:K b) {blk:IBlk} (h:BRel M b blk) (hin:qbu K blk):BRel M' b blk:=by
 cases blk with
 | arr sz g rows=>
   refine⟨h.1,fun hn=>h.2.1 (by rw [←a.β b hb];exact hn),fun c o n hc=>?_⟩
   rw [a.β b hb] at hc
   obtain⟨cs,ty,q1,q2,q3,q4,q5⟩:=h.2.2 c o n hc
   refine⟨cs,ty,by rw [a.w];exact q1,q2,q3,q4,fun i row j x hi hj=>?_⟩
   obtain⟨v,v1,v2,v3⟩:=q5 i row j x hi hj
   exact⟨v,v1,v2,v3.alike a (qaS (hin row (List.mem_of_getElem? hi)) hj)⟩
 | mp es=>
   obtain⟨c,o,n,hc,es',clock,q1,q2,q3⟩:=h
   refine⟨c,o,n,by rw [a.β b hb];exact hc,es',clock,by rw [a.w];exact q1,q2,fun i k x hi=>?_⟩
   obtain⟨e,e1,e2,e3⟩:=q3 i k x hi
   exact⟨e,e1,e2,e3.alike a (hin (k,x) (List.mem_of_getElem? hi))⟩
 | ob k vs=>
   obtain⟨c,o,n,hc,ob,us,q1,q2,q3,q4⟩:=h
   exact⟨c,o,n,by rw [a.β b hb];exact hc,ob,us,by rw [a.w];exact q1,q2,q3,fun i x v hi hv=>(q4 i x v hi hv).alike a (qaS hin hi)⟩
theorem BRel.step {M M':Mem} (s:qae M M') {b:Nat} {blk:IBlk} (hβ:M'.β b=M.β b) (hw: ∀c o n,M.β b=some (c,o,n)→M'.w.heap[c]? =M.w.heap[c]?) (hr:BRel M b blk):BRel M' b blk:=by
 cases blk with
 | arr sz gen rows=>
   obtain⟨r1,r2,r3⟩:=hr
   refine⟨r1,fun hn=>r2 (by rw [←hβ];exact hn),fun c o n hc=>?_⟩
   rw [hβ] at hc
   obtain⟨cs,ty,q1,q2,q3,q4,q5⟩:=r3 c o n hc
   refine⟨cs,ty,(hw c o n hc).trans q1,q2,q3,q4,fun i row j x hi hj=>?_⟩
   obtain⟨v,v1,v2,v3⟩:=q5 i row j x hi hj
   exact⟨v,v1,v2,v3.step s⟩
 | mp es=>
   obtain⟨c,o,n,hc,es',clock,q1,q2,q3⟩:=hr
   refine⟨c,o,n,by rw [hβ];exact hc,es',clock,(hw c o n hc).trans q1,q2,fun i k x hi=>?_⟩
   obtain⟨en,e1,e2,e3⟩:=q3 i k x hi
   exact⟨en,e1,e2,e3.step s⟩
 | ob k vs=>
   obtain⟨c,o,n,hc,ob,us,q1,q2,q3,q4⟩:=hr
   exact⟨c,o,n,by rw [hβ];exact hc,ob,us,(hw c o n hc).trans q1,q2,q3,fun i x v hi hv=>(q4 i x v hi hv).step s⟩
def qaP (R:List (Nat × IBlk)) (b:Nat):Prop:= ∃blk,look R b=some blk
def Mem.part (M:Mem) (R:List (Nat × IBlk)):Mem:=
 ⟨M.w,⟨qaP R,look R,fun c=>M.H.O c∨ ∃b blk o n,look R b=none∧M.H.G b=some blk∧M.β b=some (c,o,n)⟩,M.β⟩
theorem qlG {M:Mem} {R:List (Nat × IBlk)} (hG: ∀b blk,look R b=some blk→M.H.G b=some blk) (c:Nat):(M.part R).own c→M.own c:=by
 rintro((h | ⟨b,blk,o,n,_,h1,h2⟩) | ⟨b,blk,o,n,h1,h2⟩)
 ·exact .inl h
 ·exact .inr ⟨b,blk,o,n,h1,h2⟩
 ·exact .inr ⟨b,blk,o,n,hG b blk h1,h2⟩
theorem qia {M:Mem} {R:List (Nat × IBlk)} (hG: ∀b blk,look R b=some blk→M.H.G b=some blk):qg7 (qaP R) M (M.part R):=
 ⟨rfl,fun b hb _=>hb,fun b ⟨blk,hb⟩=>by rw [hG b blk hb];exact hb,fun b _=>rfl,qlG hG⟩
theorem qq6 {M:Mem} {R:List (Nat × IBlk)} {nx0:Nat} (hM:MRel M) (hG: ∀b blk,look R b=some blk→M.H.G b=some blk)
  (hlow: ∀b,qaP R b→b < nx0) (hin: ∀b blk,look R b=some blk→qbu (qaP R) blk):HRel nx0 R (M.part R):=by
 refine⟨⟨fun b blk h=>⟨blk,h⟩,fun b blk h=>?_,fun b b' blk blk' c o n o' n' h h'=>?_,fun c hc=>?_,fun b blk c o n h hc=>?_⟩,hlow,fun b=>rfl⟩
 ·exact BRel.alike (qia hG) ⟨blk,h⟩ (hM.blk b blk (hG b blk h)) (hin b blk h)
 ·exact hM.inj b b' blk blk' c o n o' n' (hG b blk h) (hG b' blk' h')
 ·rcases hc with hc | ⟨b,blk,o,n,_,h1,h2⟩
  ·exact hM.olt c hc
  ·exact hM.lt (.inr ⟨b,blk,o,n,h1,h2⟩)
 ·rintro(ho | ⟨b',blk',o',n',hn,h1,h2⟩)
  ·exact hM.odis b blk c o n (hG b blk h) hc ho
  ·have:=hM.inj b b' blk blk' c o n o' n' (hG b blk h) h1 hc h2
   subst this
   have h':look R b=some blk:=h
   rw [hn] at h';cases h'
theorem look_keyed {l:List (Nat × IBlk)} {p:Nat × IBlk} (h:p∈l):qaP l p.1:=by
 cases hl:look l p.1 with
 | some x=>exact⟨x,hl⟩
 | none=>exact absurd rfl (look_none hl p h)
theorem qpz {o:Oper} {ρ:Operand→Option IV} {f:Operand} {args:List Operand} {ts:Array TypeId} {n:FuncId} {zs:List IV} {R l:List (Nat × IBlk)} {x:IV} {nx0 k:Nat}
  (ho:o.op= .call {callee:= .value f,args:=⟨args⟩,argTypes:=ts}) (hc:qas ρ f args=some (n,zs)) (hn:fnOk P n=true)
  (hlow: ∀b,qaP R b→b < nx0) (hin: ∀b blk,look R b=some blk→qbu (qaP R) blk) (hzs:qaN (qaP R) zs)
  (hkey: ∀p∈l,qaP R p.1∨p.1∈List.range' nx0 k) (hx:qbc (qaP (l++R)) x) (hl: ∀b blk,look l b=some blk→qbu (qaP (l++R)) blk)
  (hp:qa5 P n zs ⟨nx0,R⟩ fun r nx' l'=>r= .ret x∧nx'=nx0+k∧l'=l):Loc P o ρ R (List.range' nx0 k) x l.reverse:=by
 intro nx m M a hM hR hF hr K Q hK
 have hG: ∀b blk,look R b=some blk→M.H.G b=some blk:=fun b blk h=>by rw [hM.G];exact hR _ (qaD h)
 obtain⟨vs,hrun,hlen,hv⟩:=qed hr ho hc hn
 unfold Oper.wp
 rw [hrun]
 have hv1: ∀(i:Nat) (y:IV) (v:Value),zs[i]? =some y→vs[i]? =some v→VRel (M.part R) y v:=fun i y v hy hw=>
  (hv i y v hy hw).alike (qia hG) (qaS hzs hy)
 refine Calls.mono (hp (M.part R) vs (qq6 hM.rel hG hlow hin) hlen hv1) fun e w' ⟨M1,nx',l',re,e1,st,hh,he,h1,h2,h3⟩=>?_
 subst h1 h2 h3
 obtain⟨v,rfl,hv⟩:=he
 subst e1
 have hKM: ∀b,qaP R b→M.H.A b:=fun b ⟨blk,hb⟩=>hM.rel.dom b blk (hG b blk hb)
 have hkey': ∀b,qaP (l'++R) b→qaP R b∨ ¬M.H.A b:=by
  rintro b ⟨blk,hb⟩
  rw [qad] at hb
  cases hb1:look l' b with
  | some y=>
    rcases hkey _ (qaD hb1) with h | h
    ·exact .inl h
    ·exact .inr (hF b h)
  | none=>rw [hb1] at hb;exact .inl ⟨blk,hb⟩
 classical
 let M':Mem:=⟨M1.w,M.H.upd l'.reverse,fun b=>if qaP (l'++R) b then M1.β b else M.β b⟩
 have hGin: ∀b,qaP (l'++R) b→M'.H.G b=M1.H.G b:=by
  rintro b ⟨blk,hb⟩
  show(M.H.upd l'.reverse).G b=M1.H.G b
  rw [qgy,List.reverse_reverse,hh.G,hb]
  rw [qad] at hb
  cases hb1:look l' b with
  | some y=>rw [hb1] at hb;exact hb
  | none=>rw [hb1] at hb;exact hG b blk hb
 have hGout: ∀b,¬qaP (l'++R) b→M'.H.G b=M.H.G b∧look R b=none:=by
  intro b hb
  have:look (l'++R) b=none:=by
   cases h:look (l'++R) b with
   | none=>rfl
   | some y=>exact absurd ⟨y,h⟩ hb
  rw [qad] at this
  cases hb1:look l' b with
  | some y=>rw [hb1] at this;cases this
  | none=>
    rw [hb1] at this
    refine⟨?_,this⟩
    show(M.H.upd l'.reverse).G b=M.H.G b
    rw [qgy,List.reverse_reverse,hb1]
 have hβin: ∀b,qaP (l'++R) b→M'.β b=M1.β b:=fun b hb=>if_pos hb
 have hβout: ∀b,¬qaP (l'++R) b→M'.β b=M.β b:=fun b hb=>if_neg hb
 have hO':M'.H.O=M.H.O:=by
  show(M.H.upd l'.reverse).O=M.H.O
  generalize l'.reverse=W
  generalize M.H=H
  induction W generalizing H with
  | nil=>rfl
  | cons p W ih=>exact ih (H.put p.1 p.2)
 have hO1: ∀c,(M.part R).H.O c→M1.H.O c:=fun c h=>by rw [st.oeq];exact h
 have hown: ∀c,M'.own c→M1.own c:=by
  rintro c (h | ⟨b,blk,o,n,h1,h2⟩)
  ·rw [hO'] at h
   exact .inl (hO1 c (.inl h))
  ·by_cases hb:qaP (l'++R) b
   ·exact .inr ⟨b,blk,o,n,by rw [←hGin b hb];exact h1,by rw [←hβin b hb];exact h2⟩
   ·obtain⟨g1,g2⟩:=hGout b hb
    exact .inl (hO1 c (.inr ⟨b,blk,o,n,g2,by rw [←g1];exact h1,by rw [←hβout b hb];exact h2⟩))
 have hA': ∀b,M'.H.A b↔M.H.A b∨ ∃blk,(b,blk)∈l':=by
  intro b
  show(M.H.upd l'.reverse).A b↔_
  rw [qir];simp
 have s:qae M M':=by
  refine⟨st.os,st.tape,st.output,st.size,fun c hc hno=>?_,fun b hb=>(hA' b).2 (.inl hb),fun b blk' hA hb=>?_,hO',fun c hc=>st.ofix c (.inl hc)⟩
  ·obtain⟨k1,k2⟩:=st.keep c hc fun h=>hno (qlG hG c h)
   exact⟨k1,fun h=>k2 (hown c h)⟩
  ·by_cases hk:qaP (l'++R) b
   ·rcases hkey' b hk with ⟨blk,hk'⟩ | hk'
    ·rw [hGin b hk] at hb
     obtain⟨blk0,g0,g1,g2,g3,g4⟩:=st.comp b blk' ⟨blk,hk'⟩ hb
     exact⟨blk0,hG b blk0 g0,g1,g2,g3,fun e=>⟨(hβin b hk).trans (g4 e).1,(g4 e).2⟩⟩
    ·exact absurd hA hk'
   ·rw [(hGout b hk).1] at hb
    exact⟨blk',hb,rfl,rfl,Nat.le_refl _,fun _=>⟨hβout b hk,rfl⟩⟩
 have al:qg7 (qaP (l'++R)) M1 M':=by
  refine⟨rfl,fun b hb _=>?_,hGin,hβin,hown⟩
  obtain⟨blk,hb⟩:=hb
  rw [qad] at hb
  cases hb1:look l' b with
  | some y=>exact(hA' b).2 (.inr ⟨y,qaD hb1⟩)
  | none=>rw [hb1] at hb;exact(hA' b).2 (.inl (hKM b ⟨blk,hb⟩))
 have hmono: ∀b,qaP R b→qaP (l'++R) b:=by
  rintro b ⟨blk,hb⟩
  unfold qaP
  rw [qad]
  cases hb1:look l' b with
  | some y=>exact⟨y,rfl⟩
  | none=>exact⟨blk,hb⟩
 have rel:MRel M':=by
  refine⟨fun b blk hb=>?_,fun b blk hb=>?_,fun b b' blk blk' c o n o' n' h h' c1 c2=>?_,fun c hc=>?_,fun b blk c o n h hc=>?_⟩
  ·by_cases hk:qaP (l'++R) b
   ·rw [hGin b hk] at hb
    exact al.A b hk (hh.rel.dom b blk hb)
   ·rw [(hGout b hk).1] at hb
    exact(hA' b).2 (.inl (hM.rel.dom b blk hb))
  ·by_cases hk:qaP (l'++R) b
   ·rw [hGin b hk] at hb
    refine BRel.alike al hk (hh.rel.blk b blk hb) ?_
    rw [hh.G,qad] at hb
    cases hb1:look l' b with
    | some y=>rw [hb1] at hb;cases hb;exact hl b _ hb1
    | none=>
      rw [hb1] at hb
      have:=hin b blk hb
      cases blk with
      | arr sz g rows=>exact fun row hrow=>qck hmono (this row hrow)
      | mp es=>exact fun e he=>qen hmono _ (this e he)
      | ob k vs=>exact qck hmono this
   ·rw [(hGout b hk).1] at hb
    refine BRel.step s (hβout b hk) (fun c o n hc=>?_) (hM.rel.blk b blk hb)
    exact st.ofix c (.inr ⟨b,blk,o,n,(hGout b hk).2,hb,hc⟩)
  ·by_cases hk:qaP (l'++R) b<;>by_cases hk':qaP (l'++R) b'
   ·rw [hGin b hk] at h;rw [hGin b' hk'] at h';rw [hβin b hk] at c1;rw [hβin b' hk'] at c2
    exact hh.rel.inj b b' blk blk' c o n o' n' h h' c1 c2
   ·rw [hGin b hk] at h;rw [(hGout b' hk').1] at h';rw [hβin b hk] at c1;rw [hβout b' hk'] at c2
    exact absurd (hO1 c (.inr ⟨b',blk',o',n',(hGout b' hk').2,h',c2⟩)) (hh.rel.odis b blk c o n h c1)
   ·rw [(hGout b hk).1] at h;rw [hGin b' hk'] at h';rw [hβout b hk] at c1;rw [hβin b' hk'] at c2
    exact absurd (hO1 c (.inr ⟨b,blk,o,n,(hGout b hk).2,h,c1⟩)) (hh.rel.odis b' blk' c o' n' h' c2)
   ·rw [(hGout b hk).1] at h;rw [(hGout b' hk').1] at h';rw [hβout b hk] at c1;rw [hβout b' hk'] at c2
    exact hM.rel.inj b b' blk blk' c o n o' n' h h' c1 c2
  ·rw [hO'] at hc
   exact Nat.lt_of_lt_of_le (hM.rel.olt c hc) st.size
  ·rw [hO']
   by_cases hk:qaP (l'++R) b
   ·rw [hGin b hk] at h;rw [hβin b hk] at hc
    exact fun ho=>hh.rel.odis b blk c o n h hc (hO1 c (.inl ho))
   ·rw [(hGout b hk).1] at h;rw [hβout b hk] at hc
    exact hM.rel.odis b blk c o n h hc
 exact hK v M' s rel rfl (hv.alike al hx)
/-! ### the same, checked by computing -/
def qbn (ks:List Nat):IV→Bool
 | .p _=>true
 | .ref b _ _ _=>ks.contains b
 | .ptr b _ _ _=>ks.contains b
 | .mp b=>ks.contains b
 | .clo _ f c=>goW f && goW c
 | .agg cs=>goW cs
 | .tup cs=>goW cs
 | .dead=>true
where goW:List IV→Bool
 | []=>true
 | x::r=>qbn ks x && goW r
theorem qdw {ks:List Nat} {K:Nat→Prop} (h: ∀b∈ks,K b) (x:IV):qbn ks x=true→qbc K x:=by
 apply IV.rec (motive_1:=fun x=>qbn ks x=true→qbc K x) (motive_2:=fun l=>qbn.goW ks l=true→qaN K l)
 ·intro x _;trivial
 ·intro b g off len hb;exact h b (by simpa [qbn] using hb)
 ·intro b g r j hb;exact h b (by simpa [qbn] using hb)
 ·intro b hb;exact h b (by simpa [qbn] using hb)
 ·intro fn f c i1 i2 hb
  simp only [qbn,Bool.and_eq_true] at hb
  exact⟨i1 hb.1,i2 hb.2⟩
 ·intro cs ih hb;exact ih hb
 ·intro cs ih hb;exact ih hb
 ·intro _;trivial
 ·intro _;trivial
 ·intro x l i1 i2 hb
  simp only [qbn.goW,Bool.and_eq_true] at hb
  exact⟨i1 hb.1,i2 hb.2⟩
theorem qd8 {ks:List Nat} {K:Nat→Prop} (h: ∀b∈ks,K b): ∀l:List IV,qbn.goW ks l=true→qaN K l
 | [],_=>trivial
 | x::r,hb=>by simp only [qbn.goW,Bool.and_eq_true] at hb;exact⟨qdw h x hb.1,qd8 h r hb.2⟩
def qkZ (ks:List Nat):IBlk→Bool
 | .arr _ _ rows=>rows.all (qbn.goW ks)
 | .mp es=>es.all fun e=>qbn ks e.2
 | .ob _ vs=>qbn.goW ks vs
theorem qfw {ks:List Nat} {K:Nat→Prop} (h: ∀b∈ks,K b) {blk:IBlk} (hb:qkZ ks blk=true):qbu K blk:=by
 cases blk with
 | arr sz g rows=>exact fun row hrow=>qd8 h row (List.all_eq_true.1 hb row hrow)
 | mp es=>exact fun e he=>qdw h e.2 (List.all_eq_true.1 hb e he)
 | ob k vs=>exact qd8 h vs hb
def qor (nx0 k:Nat) (R l:List (Nat × IBlk)) (zs:List IV) (x:IV):Bool:=
 R.all (fun p=>Nat.blt p.1 nx0 && qkZ (R.map (·.1)) p.2) && qbn.goW (R.map (·.1)) zs &&
 l.all (fun p=>((R.map (·.1)).contains p.1 || (Nat.ble nx0 p.1 && Nat.blt p.1 (nx0+k))) && qkZ (l.map (·.1)++R.map (·.1)) p.2) &&
 qbn (l.map (·.1)++R.map (·.1)) x
theorem qru {o:Oper} {ρ:Operand→Option IV} {f:Operand} {args:List Operand} {ts:Array TypeId} {n:FuncId} {zs:List IV} {R l:List (Nat × IBlk)} {x:IV} {nx0 k:Nat}
  (ho:o.op= .call {callee:= .value f,args:=⟨args⟩,argTypes:=ts}) (hc:qas ρ f args=some (n,zs)) (hn:fnOk P n=true)
  (he:qor nx0 k R l zs x=true)
  (hp:qa5 P n zs ⟨nx0,R⟩ fun r nx' l'=>r= .ret x∧nx'=nx0+k∧l'=l):Loc P o ρ R (List.range' nx0 k) x l.reverse∧ ∀p∈l,p.1∈List.range' nx0 k∨ ∃blk,(p.1,blk)∈R:=by
 simp only [qor,Bool.and_eq_true,List.all_eq_true,Bool.or_eq_true] at he
 obtain⟨⟨⟨h1,h2⟩,h3⟩,h4⟩:=he
 have kR: ∀b∈R.map (·.1),qaP R b:=fun b hb=>by
  obtain⟨p,hp,rfl⟩:=List.mem_map.1 hb
  exact look_keyed hp
 have kl: ∀b∈l.map (·.1)++R.map (·.1),qaP (l++R) b:=fun b hb=>by
  rw [←List.map_append] at hb
  obtain⟨p,hp,rfl⟩:=List.mem_map.1 hb
  exact look_keyed hp
 have hkey: ∀p∈l,qaP R p.1∨p.1∈List.range' nx0 k:=fun p hp=>by
  rcases (h3 p hp).1 with h | ⟨ha,hb⟩
  ·exact .inl (kR _ (by simpa using h))
  ·refine .inr ?_
   have ha:=Nat.le_of_ble_eq_true ha
   have hb:p.1+1≤nx0+k:=by simpa [Nat.blt] using hb
   simp [List.mem_range'_1];omega
 refine⟨qpz ho hc hn (fun b ⟨blk,hb⟩=>?_) (fun b blk hb=>qfw kR (h1 _ (qaD hb)).2) (qd8 kR _ h2) hkey (qdw kl x h4) (fun b blk hb=>qfw kl (h3 _ (qaD hb)).2) hp,fun p hp=>?_⟩
 ·have:=(h1 _ (qaD hb)).1
  have:b+1≤nx0:=by simpa [Nat.blt] using this
  exact this
 ·rcases hkey p hp with ⟨blk,hb⟩ | h
  ·exact .inr ⟨blk,qaD hb⟩
  ·exact .inl h
def qer:IBlk→List Nat
 | .arr _ _ rows=>rows.flatMap qaK
 | .mp es=>es.flatMap fun e=>refs e.2
 | .ob _ vs=>qaK vs
def qc5 (G:Nat→Option IBlk):Nat→List Nat→List Nat→List Nat
 | 0,_,acc=>acc
 | _, [],acc=>acc
 | n+1,b::r,acc=>match acc.contains b with
   | true=>qc5 G n r acc
   | false=>match G b with
     | some blk=>qc5 G n (qer blk++r) (b::acc)
     | none=>qc5 G n r acc
end Go.Idl
