/- Facts that the proofs of this claim lean on. -/
import Derived.Test.YtfhhdgkhajkapaaGreatIdD
set_option linter.unusedSimpArgs false
set_option linter.unusedVariables false
/-
 Slices, lengths, builds.
-/
namespace Go.Idl
variable {P:Program} {o:Oper} {ρ:Operand→Option IV} {G:Nat→Option IBlk}
/-! ### a rectangle of cells as one list -/
theorem qrF {p:Nat→Nat→Value→Prop} (n sz:Nat) (h: ∀i,i < n→ ∀j,j < sz→ ∃u,p i j u):
  ∃f:Nat→Value,∀i,i < n→ ∀j,j < sz→p i j (f (i * sz+j)):=by
 have hh: ∀k,∃u,k < n * sz→p (k / sz) (k % sz) u:=by
  intro k
  by_cases hk:k < n * sz
  ·have hs:0 < sz:=by
    rcases Nat.eq_zero_or_pos sz with h0 | h0
    ·subst h0;simp at hk
    ·exact h0
   obtain⟨u,hu⟩:=h (k / sz) (Nat.div_lt_of_lt_mul (by rw [Nat.mul_comm];exact hk)) (k % sz) (Nat.mod_lt _ hs)
   exact⟨u,fun _=>hu⟩
  ·exact⟨undef,fun h=>absurd h hk⟩
 refine⟨fun k=>Classical.choose (hh k),fun i hi j hj=>?_⟩
 have hs:0 < sz:=by omega
 have hlt:i * sz+j < n * sz:=by
  calc i * sz+j < i * sz+sz:=by omega
   _=(i+1) * sz:=by rw [Nat.add_mul,Nat.one_mul]
   _≤n * sz:=Nat.mul_le_mul_right _ hi
 have e1:(i * sz+j) / sz=i:=by
  rw [Nat.mul_comm,Nat.mul_add_div hs,Nat.div_eq_of_lt hj,Nat.add_zero]
 have e2:(i * sz+j) % sz=j:=by
  rw [Nat.mul_comm,Nat.mul_add_mod,Nat.mod_eq_of_lt hj]
 have:=Classical.choose_spec (hh (i * sz+j)) hlt
 show p i j (Classical.choose (hh (i * sz+j)))
 generalize Classical.choose (hh (i * sz+j))=u at this ⊢
 rw [e1,e2] at this
 exact this
theorem qb6 {i j n sz:Nat} (hi:i < n) (hj:j < sz):i * sz+j < n * sz:=by
 calc i * sz+j < i * sz+sz:=by omega
  _=(i+1) * sz:=by rw [Nat.add_mul,Nat.one_mul]
  _≤n * sz:=Nat.mul_le_mul_right _ hi
theorem qeZ {k n sz:Nat} (hk:k < n * sz): ∃i j,i < n∧j < sz∧k=i * sz+j:=by
 have hs:0 < sz:=by
  rcases Nat.eq_zero_or_pos sz with h0 | h0
  ·subst h0;simp at hk
  ·exact h0
 refine⟨k / sz,k % sz,Nat.div_lt_of_lt_mul (by rw [Nat.mul_comm];exact hk),Nat.mod_lt _ hs,?_⟩
 rw [Nat.mul_comm];exact(Nat.div_add_mod k sz).symm
/-! ### what lies in a slice -/
def qco (G:Nat→Option IBlk) (sz:Nat):IV→Option (List (List IV) × List (Nat × IBlk))
 | .p (.imm s rows)=>if s=sz then some (rows.map (·.map .p), []) else none
 | .p .emp=>some ([], [])
 | .p (.sc (.slice none 0 0))=>some ([], [])
 | .ref b g off len=>match G b with
   | some (.arr s g' rows)=>if g=g'∧s=sz then some ((rows.drop off).take len, [(b, .arr s g' rows)]) else none
   | _=>none
 | _=>none
structure qiJ (P:Program) (M:Mem) (sz:Nat) (rs:List (List IV)) (v:Value) (a:Option Addr) (cap:Nat) (f:Nat→Value):Prop where
 val:v= .slice a rs.length cap
 cap_le:rs.length≤cap
 max:cap≤maxLen
 wid: ∀row∈rs,row.length=sz
 pre: ∀n,n≤rs.length→(Builtin.firstCells sz n v).run P M.w= .ok ((List.range (n * sz)).map f).toArray M.w
 rel: ∀(i:Nat) (row:List IV) (j:Nat) (x:IV),rs[i]? =some row→row[j]? =some x→(f (i * sz+j)).oneCell'=true∧VRel M x (f (i * sz+j))
theorem qh4 {n sz:Nat} (h:0 < n * sz):0 < n∧0 < sz:=by
 rcases Nat.eq_zero_or_pos n with h0 | h0
 ·subst h0;simp at h
 ·rcases Nat.eq_zero_or_pos sz with h1 | h1
  ·subst h1;simp at h
  ·exact⟨h0,h1⟩
theorem qil {M:Mem} {sz:Nat} {rs:List (List IV)} {c o:Nat} (wid: ∀row∈rs,row.length=sz)
  (hc: ∀(i:Nat) (row:List IV) (j:Nat) (x:IV),rs[i]? =some row→row[j]? =some x→
   ∃u,M.w.cell? ⟨c,o+(i * sz+j),none⟩=some u∧u.oneCell'=true∧VRel M x u):
  ∃f:Nat→Value,(∀k,k < rs.length * sz→M.w.cell? ⟨c,o+k,none⟩=some (f k))∧
   ∀(i:Nat) (row:List IV) (j:Nat) (x:IV),rs[i]? =some row→row[j]? =some x→(f (i * sz+j)).oneCell'=true∧VRel M x (f (i * sz+j)):=by
 obtain⟨f,hf⟩:=qrF (p:=fun i j u=>M.w.cell? ⟨c,o+(i * sz+j),none⟩=some u∧u.oneCell'=true∧ ∀row x,rs[i]? =some row→row[j]? =some x→VRel M x u) rs.length sz (by
  intro i hi j hj
  have hrow:=List.getElem?_eq_getElem hi
  have hw:=wid _ (List.getElem_mem hi)
  have hjl:j < (rs[i]).length:=by omega
  obtain⟨u,u1,u2,u3⟩:=hc i _ j _ hrow (List.getElem?_eq_getElem hjl)
  refine⟨u,u1,u2,fun row x h1 h2=>?_⟩
  rw [hrow] at h1;cases h1
  rw [List.getElem?_eq_getElem hjl] at h2;cases h2
  exact u3)
 refine⟨f,fun k hk=>?_,fun i row j x hi hj=>?_⟩
 ·obtain⟨i,j,hi,hj,rfl⟩:=qeZ hk
  exact(hf i hi j hj).1
 ·have hil:i < rs.length:=by
   rcases Nat.lt_or_ge i rs.length with h | h
   ·exact h
   ·rw [List.getElem?_eq_none h] at hi;cases hi
  have hw:=wid row (List.mem_of_getElem? hi)
  have hjl:j < sz:=by
   rw [←hw]
   rcases Nat.lt_or_ge j row.length with h | h
   ·exact h
   ·rw [List.getElem?_eq_none h] at hj;cases hj
  exact⟨(hf i hil j hjl).2.1,(hf i hil j hjl).2.2 row x hi hj⟩
theorem qek {sz:Nat} {z:IV} {rs:List (List IV)} {R:List (Nat × IBlk)} (h:qco G sz z=some (rs,R)) {M:Mem} (hM:MRel M)
  (hR: ∀p∈R,M.H.G p.1=some p.2) {v:Value} (hv:VRel M z v): ∃a cap f,qiJ P M sz rs v a cap f:=by
 unfold qco at h
 split at h
 ·rename_i s rows
  split at h
  ·rename_i hs
   subst hs
   simp only [Option.some.injEq,Prod.mk.injEq] at h
   obtain⟨rfl,rfl⟩:=h
   obtain⟨a,cap,c,o',e,h1,h2,h3,h4,h5⟩:=hv.imm_inv
   have wid: ∀row∈rows.map (·.map IV.p),row.length=s:=by
    intro row hrow
    obtain⟨r,hr,rfl⟩:=List.mem_map.1 hrow
    obtain⟨i,hi,e⟩:=List.getElem_of_mem hr
    simpa using h4 i r (by rw [List.getElem?_eq_getElem hi,e])
   obtain⟨f,f1,f2⟩:=qil (M:=M) (c:=c) (o:=o') wid (by
    intro i row j x hi hj
    rw [List.getElem?_map] at hi
    cases hr:rows[i]? with
    | none=>simp [hr] at hi
    | some r=>
      simp [hr] at hi;subst hi
      rw [List.getElem?_map] at hj
      cases hx:r[j]? with
      | none=>simp [hx] at hj
      | some y=>
        simp [hx] at hj;subst hj
        obtain⟨u,u1,u2,u3⟩:=h5 i r j y hr hx
        exact⟨u,u1,u2, .p _ _ u3⟩)
   refine⟨a,cap,f,by simpa using e,by simpa using h1,h2,wid,?_,f2⟩
   intro n hn
   simp only [List.length_map] at f1 hn
   subst e
   rcases Nat.eq_zero_or_pos rows.length with h0 | h0
   ·have:n=0:=by omega
    subst this
    cases a with
    | none=>simp [Builtin.firstCells]
    | some a=>simp [Builtin.firstCells,loadCells,loadCellsFrom]
   ·obtain⟨e3,_,_⟩:=h3 h0
    subst e3
    have hmul:n * s≤rows.length * s:=Nat.mul_le_mul_right _ hn
    exact run_loadCells (P:=P) M.w ⟨c,o',none⟩ (n * s) f (fun k hk=>by rw [qbj];exact f1 k (by omega))
  ·cases h
 ·simp only [Option.some.injEq,Prod.mk.injEq] at h
  obtain⟨rfl,rfl⟩:=h
  cases hv with
  | p x v h=>
    cases h with
    | emp a=>exact⟨a,0,fun _=>undef,rfl,Nat.le_refl _,Nat.zero_le _,by simp,fun n hn=>(by have h0:n=0:=(by simpa using hn);subst h0;cases a<;>simp [Builtin.firstCells,loadCells,loadCellsFrom]),by simp⟩
 ·simp only [Option.some.injEq,Prod.mk.injEq] at h
  obtain⟨rfl,rfl⟩:=h
  have e:=hv.sc_inv
  subst e
  exact⟨none,0,fun _=>undef,rfl,Nat.le_refl _,Nat.zero_le _,by simp,fun n hn=>(by have h0:n=0:=(by simpa using hn);subst h0;simp [Builtin.firstCells]),by simp⟩
 ·rename_i b g off len
  split at h
  ·rename_i s g' rows hb
   split at h
   ·rename_i hg
    obtain⟨rfl,rfl⟩:=hg
    simp only [Option.some.injEq,Prod.mk.injEq] at h
    obtain⟨rfl,rfl⟩:=h
    have hb':M.H.G b=some (.arr s g rows):=hR (b,_) (by simp)
    obtain⟨a,cap,e,h1,h2,h3,h4⟩:=hv.ref_inv hb' rfl
    simp only [IBlk.len] at h2 h3
    simp only [IBlk.sz] at h4
    have hlen:((rows.drop off).take len).length=len:=by rw [List.length_take,List.length_drop];omega
    have hbr:=hM.blk b _ hb'
    have wid: ∀row∈(rows.drop off).take len,row.length=s:=fun row hrow=>hbr.1 row (List.mem_of_mem_drop (List.mem_of_mem_take hrow))
    rcases h4 with h4 | ⟨c,o',n,hβ,e3,h5⟩
    ·have:len=0:=by omega
     subst this
     exact⟨a,cap,fun _=>undef,by simpa using e,by simp,by rw [h4];exact Nat.zero_le _,by simp,fun n hn=>(by have h0:n=0:=(by simpa using hn);subst h0;subst e;cases a<;>simp [Builtin.firstCells,loadCells,loadCellsFrom]),by simp⟩
    ·subst e3
     obtain⟨f,f1,f2⟩:=qil (M:=M) (c:=c) (o:=o'+off * s) wid (by
      intro i row j x hi hj
      rw [List.getElem?_take] at hi
      split at hi
      ·rw [List.getElem?_drop] at hi
       obtain⟨u,u1,u2,u3⟩:=hbr.row hi hβ j x hj
       exact⟨u,by rw [←u1];congr 2;rw [Nat.add_mul];omega,u2,u3⟩
      ·cases hi)
     obtain⟨_,_,_,_,hmx,_⟩:=hbr.2.2 c o' n hβ
     refine⟨_,cap,f,by rw [hlen];exact e,by rw [hlen];exact h1,by unfold maxLen at *;omega,wid,?_,f2⟩
     intro n hn
     subst e
     have hmul:n * s≤((rows.drop off).take len).length * s:=Nat.mul_le_mul_right _ hn
     exact run_loadCells (P:=P) M.w ⟨c,o'+off * s,none⟩ _ f (fun k hk=>by rw [qbj];exact f1 k (by omega))
   ·cases h
  ·cases h
 ·cases h
/-! ### len -/
def flen (G:Nat→Option IBlk):IV→Option FR
 | .p (.imm _ rows)=>some {x:=sci .i64 rows.length}
 | .p .emp=>some {x:=sci .i64 0}
 | .p (.sc (.slice none n _))=>some {x:=sci .i64 n}
 | .p (.sc (.string s))=>some {x:=sci .i64 s.size}
 | .p (.sc (.map none))=>some {x:=sci .i64 0}
 | .ref _ _ _ len=>some {x:=sci .i64 len}
 | .mp b=>match G b with
   | some (.mp es)=>some {x:=sci .i64 es.length,R:= [(b, .mp es)]}
   | _=>none
 | _=>none
def qdV (P:Program) (t:TypeId):IV→Bool
 | .p (.imm ..) | .p .emp | .ref .. | .p (.sc (.slice ..))=>match tkd P t with | some (.slice _)=>true | _=>false
 | .p (.sc (.string _))=>tkd P t==some .string
 | .mp _ | .p (.sc (.map _))=>match tkd P t with | some (.map _ _)=>true | _=>false
 | _=>false
theorem qq9 {t e:TypeId} (h:tkd P t=some (.slice e)) (ty:TypeId) (a:Option Addr) (n c:Nat) (w:World):
  (Builtin.len_ #[t] ty #[.slice a n c]).run P w= .ok (.int .i64 n) w:=by
 obtain⟨d,hu,hd⟩:=qaZ h
 simp only at hd;subst hd
 simp [Builtin.len_,run_underlying hu,goInt]
theorem f_len {x:Operand} {t:TypeId} {zx:IV} {fr:FR} (ho:o.op= .call {callee:= .builtin .len,args:=#[x],argTypes:=#[t]}) (hx:ρ x=some zx)
  (hk:qdV P t zx=true) (h:flen G zx=some fr):fr.ok P o ρ:=by
 have hsl: ∀(a:Option Addr) (n c:Nat),(∃e,tkd P t=some (.slice e))→ ∀(ac:Act) (w:World),ac.eval x= .slice a n c→
   (execOp ac.eval o).run P w= .ok (.value (.int .i64 n)) w:=by
  intro a n c ⟨e,he⟩ ac w hv
  have:=qq9 he o.type a n c w
  simp [execOp,ho,resolve,invoke,builtin,hv,this]
 have hkd: ∀b:Bool,(match tkd P t with | some (.slice _)=>true | _=>false)=true→ ∃e,tkd P t=some (.slice e):=by
  intro _ h
  split at h
  ·rename_i e he;exact⟨e,he⟩
  ·cases h
 unfold flen at h
 split at h
 ·rename_i s rows
  simp only [Option.some.injEq] at h;subst h
  refine .read fun M ac hM hR hr=>⟨_,?_, .sc M _⟩
  obtain⟨a,cap,c,o',e,_⟩:=(hr x (by simp [ho,Op.operands,Call.operands]) _ hx).imm_inv
  exact hsl a _ cap (hkd true hk) ac M.w e
 ·simp only [Option.some.injEq] at h;subst h
  refine .read fun M ac hM hR hr=>⟨_,?_, .sc M _⟩
  have hv:=hr x (by simp [ho,Op.operands,Call.operands]) _ hx
  generalize hq:ac.eval x=q at hv
  cases hv with
  | p y v h=>
    cases h with
    | emp a=>exact hsl a 0 0 (hkd true hk) ac M.w hq
 ·rename_i n c
  simp only [Option.some.injEq] at h;subst h
  refine .read fun M ac hM hR hr=>⟨_,?_, .sc M _⟩
  exact hsl none n c (hkd true hk) ac M.w (hr x (by simp [ho,Op.operands,Call.operands]) _ hx).sc_inv
 ·rename_i s
  simp only [Option.some.injEq] at h;subst h
  refine .read fun M ac hM hR hr=>⟨_,?_, .sc M _⟩
  have e:=(hr x (by simp [ho,Op.operands,Call.operands]) _ hx).sc_inv
  have hk':tkd P t=some .string:=by simpa [qdV] using hk
  obtain⟨d,hu,hd⟩:=qaZ hk'
  simp only at hd;subst hd
  simp [execOp,ho,resolve,invoke,builtin,e,Builtin.len_,run_underlying hu,goInt]
 ·simp only [Option.some.injEq] at h;subst h
  refine .read fun M ac hM hR hr=>⟨_,?_, .sc M _⟩
  have e:=(hr x (by simp [ho,Op.operands,Call.operands]) _ hx).sc_inv
  simp only [qdV] at hk
  split at hk
  ·rename_i k1 e1 ht
   obtain⟨d,hu,hd⟩:=qaZ ht
   simp only at hd;subst hd
   simp [execOp,ho,resolve,invoke,builtin,e,Builtin.len_,run_underlying hu,goInt]
  ·cases hk
 ·rename_i b g off len
  simp only [Option.some.injEq] at h;subst h
  refine .read fun M ac hM hR hr=>⟨_,?_, .sc M _⟩
  obtain⟨a,cap,e⟩:=(hr x (by simp [ho,Op.operands,Call.operands]) _ hx).ref_any
  exact hsl a len cap (hkd true hk) ac M.w e
 ·rename_i b
  split at h
  ·rename_i es hb
   simp only [Option.some.injEq] at h;subst h
   refine .read fun M ac hM hR hr=>⟨_,?_, .sc M _⟩
   have hb':M.H.G b=some (.mp es):=hR (b,_) (by simp)
   obtain⟨c,o',n,hβ,es',clock,h1,h2,_⟩:=hM.blk b _ hb'
   have hv:=hr x (by simp [ho,Op.operands,Call.operands]) _ hx
   have e:ac.eval x= .map (some c):=by
    generalize ac.eval x=q at hv
    cases hv with
    | mp b v hA hv h=>
      obtain⟨_,c',o2,n2,hβ',hv'⟩:=h _ hb'
      rw [hβ] at hβ';cases hβ'
      exact hv'
   simp only [qdV] at hk
   split at hk
   ·rename_i k1 e1 ht
    obtain⟨d,hu,hd⟩:=qaZ ht
    simp only at hd;subst hd
    have hg:(getObj c).run P M.w= .ok (.map es' clock) M.w:=by simp [getObj,Sem.run,h1]
    simp [execOp,ho,resolve,invoke,builtin,e,Builtin.len_,run_underlying hu,goInt,hg,h2]
   ·cases hk
  ·cases h
 ·cases h
end Go.Idl
/-
 Reslicing, builds of values, closures, min and max.
-/
namespace Go.Idl
variable {P:Program} {o:Oper} {ρ:Operand→Option IV} {G:Nat→Option IBlk}
/-! ### slice -/
def sbd (i:Option IV) (y dflt:Nat):Option Nat:=
 match i with
 | none=>some dflt
 | some (.p (.sc (.int _ n)))=>if 0≤n∧n≤y then some n.toNat else none
 | _=>none
def sbds (lo hi:Option IV) (y:Nat):Option (Nat × Nat):=
 match sbd hi y y with
 | some h=>(sbd lo h 0).map fun l=>(l,h)
 | none=>none
def qez (P:Program) (G:Nat→Option IBlk) (t:TypeId) (x:IV) (lo hi mx:Option IV):Option FR:=
 match mx with
 | none=>match x with
   | .p (.imm s rows)=>match(tel P t).bind (tsz P ·),sbds lo hi rows.length with
     | some n,some (l,h)=>if n=s then some {x:= .p (.imm s ((rows.drop l).take (h - l)))} else none
     | _,_=>none
   | .ref b g off len=>match(tel P t).bind (tsz P ·),sbds lo hi len,G b with
     | some n,some (l,h),some (.arr s g' rows)=>if g=g'∧n=s then some {x:= .ref b g (off+l) (h - l),R:= [(b, .arr s g' rows)]} else none
     | _,_,_=>none
   | .p .emp=>match(tel P t).bind (tsz P ·),sbds lo hi 0 with
     | some _,some _=>some {x:= .p .emp}
     | _,_=>none
   | .p (.sc (.slice none 0 0))=>match(tel P t).bind (tsz P ·),sbds lo hi 0 with
     | some _,some _=>some {x:= .p (.sc (.slice none 0 0))}
     | _,_=>none
   | .p (.sc (.string s))=>match tkd P t,sbds lo hi s.size with
     | some .string,some (l,h)=>some {x:= .p (.sc (.string (s.extract l h)))}
     | _,_=>none
   | _=>none
 | some m=>match(tel P t).bind (tsz P ·),x,sbd (some m) 0 0,sbd hi 0 1,sbd lo 0 0 with
   | some _, .p (.imm ..),some 0,some 0,some 0 | some _, .ref ..,some 0,some 0,some 0 | some _, .p .emp,some 0,some 0,some 0=>some {x:= .p .emp}
   | some _, .p (.sc (.slice none 0 0)),some 0,some 0,some 0=>some {x:= .p (.sc (.slice none 0 0))}
   | _,_,_,_,_=>none
theorem qbf {M:Mem} {i:IV} {v:Value} {y d k:Nat} {code:BoundsCode} (h:sbd (some i) y d=some k) (hv:VRel M i v) (z:Nat) (hz:y≤z) (w:World):
  (Instr.sliceBound v z code).run P w= .ok k w∧k≤y:=by
 unfold sbd at h
 split at h
 ·cases ‹some i=none›
 ·rename_i kd n e
  injection e with e
  subst e
  split at h
  ·rename_i hc
   simp only [Option.some.injEq] at h
   have:=hv.sc_inv;subst this
   refine⟨?_,by omega⟩
   have hc':0≤n∧n≤(z:Int):=by omega
   simp only [Instr.sliceBound,asIntOf,Sem.run_bind,Sem.run_pure,Result.andThen_ok,hc',and_self,if_true,h]
  ·cases h
 ·cases h
theorem run_bounds {M:Mem} {lo hi:Option IV} {vlo vhi:Option Value} {y l h:Nat} (hb:sbds lo hi y=some (l,h)) (isS:Bool) (c:Nat) (hc:y≤c)
  (rlo: ∀i,lo=some i→ ∃v,vlo=some v∧VRel M i v) (nlo:lo=none→vlo=none)
  (rhi: ∀i,hi=some i→ ∃v,vhi=some v∧VRel M i v) (nhi:hi=none→vhi=none) (w:World):
  (Instr.sliceBounds isS y c vlo vhi none).run P w= .ok (l,h,c) w∧l≤h∧h≤y:=by
 unfold sbds at hb
 cases hh:sbd hi y y with
 | none=>simp [hh] at hb
 | some h'=>
   cases hl:sbd lo h' 0 with
   | none=>simp [hh,hl] at hb
   | some l'=>
     simp only [hh,hl,Option.map_some,Option.some.injEq,Prod.mk.injEq] at hb
     obtain⟨rfl,rfl⟩:=hb
     have H1:h'≤y∧((vhi=none∧h'=y)∨ ∃v,vhi=some v∧ ∀code,(Instr.sliceBound v c code).run P w= .ok h' w):=by
      cases hi with
      | none=>
        simp only [sbd,Option.some.injEq] at hh
        exact⟨by omega, .inl ⟨nhi rfl,hh.symm⟩⟩
      | some i=>
        obtain⟨v,e,hv⟩:=rhi i rfl
        exact⟨(qbf (P:=P) (code:= .index) hh hv c hc w).2, .inr ⟨v,e,fun code=>(qbf hh hv c hc w).1⟩⟩
     have H2:l'≤h'∧((vlo=none∧l'=0)∨ ∃v,vlo=some v∧ ∀code,(Instr.sliceBound v h' code).run P w= .ok l' w):=by
      cases lo with
      | none=>
        simp only [sbd,Option.some.injEq] at hl
        exact⟨by omega, .inl ⟨nlo rfl,hl.symm⟩⟩
      | some i=>
        obtain⟨v,e,hv⟩:=rlo i rfl
        exact⟨(qbf (P:=P) (code:= .index) hl hv h' (Nat.le_refl _) w).2, .inr ⟨v,e,fun code=>(qbf hl hv h' (Nat.le_refl _) w).1⟩⟩
     refine⟨?_,H2.1,H1.1⟩
     unfold Instr.sliceBounds
     rcases H1.2 with ⟨e1,e2⟩ | ⟨v1,e1,e2⟩<;>rcases H2.2 with ⟨e3,e4⟩ | ⟨v2,e3,e4⟩<;>subst e1<;>subst e3
     ·subst e2;subst e4;rfl
     ·subst e2;simp [e4]
     ·subst e4;simp [e2]
     ·simp [e2,e4]
theorem qdL {t:TypeId} {n:Nat} (h:(tel P t).bind (tsz P ·)=some n): ∃e,tel P t=some e∧tsz P e=some n:=by
 cases he:tel P t with
 | none=>simp [he] at h
 | some e=>exact⟨e,rfl,by simpa [he] using h⟩
theorem qbv {t e:TypeId} {n:Nat} (he:tel P t=some e) (hn:tsz P e=some n) {a:Option Addr} {len cap l h m:Nat} {vlo vhi vmx:Option Value} {w:World}
  (hb:(Instr.sliceBounds true len cap vlo vhi vmx).run P w= .ok (l,h,m) w):
  (Instr.sliceAt t (.slice a len cap) vlo vhi vmx).run P w= .ok (.slice (if m=l then a else a.map (·.add (l * n))) (h - l) (m - l)) w:=by
 have hu:=und_tel he
 simp only [Instr.sliceAt,Instr.slice,Sem.run_bind,run_underlying hu,Result.andThen_ok,hb,qaC hn,Sem.run_pure]
theorem qiW {M:Mem} (a:Act) {x:Option Operand} {z:Option IV} (hz: ∀y,x=some y→ ∃i,z=some i∧ρ y=some i) (hn:x=none→z=none)
  (hr: ∀y,x=some y→ ∀i,ρ y=some i→VRel M i (a.eval y)):
  (∀i,z=some i→ ∃v,x.map a.eval=some v∧VRel M i v)∧(z=none→x.map a.eval=none):=by
 cases x with
 | none=>exact⟨fun i hi=>(by rw [hn rfl] at hi;cases hi),fun _=>rfl⟩
 | some y=>
   obtain⟨i,rfl,hy⟩:=hz y rfl
   exact⟨fun i' hi=>(by cases hi;exact⟨_,rfl,hr y rfl i hy⟩),fun h=>(by cases h)⟩
def ropt (ρ:Operand→Option IV):Option Operand→Option (Option IV)
 | none=>some none
 | some y=>(ρ y).map some
theorem qcR {x:Option Operand} {z:Option IV} (h:ropt ρ x=some z):(∀y,x=some y→ ∃i,z=some i∧ρ y=some i)∧(x=none→z=none):=by
 cases x with
 | none=>simp only [ropt,Option.some.injEq] at h;subst h;exact⟨fun y hy=>(by cases hy),fun _=>rfl⟩
 | some y=>
   cases hy:ρ y with
   | none=>simp [ropt,hy] at h
   | some i=>simp only [ropt,hy,Option.map_some,Option.some.injEq] at h;subst h;exact⟨fun y' hy'=>(by cases hy';exact⟨i,rfl,hy⟩),fun h=>(by cases h)⟩
theorem f_slice {t:TypeId} {x:Operand} {lo hi mx:Option Operand} {zx:IV} {zlo zhi zmx:Option IV} {fr:FR} (ho:o.op= .slice t x lo hi mx)
  (hx:ρ x=some zx) (hlo:ropt ρ lo=some zlo) (hhi:ropt ρ hi=some zhi) (hmx:ropt ρ mx=some zmx) (h:qez P G t zx zlo zhi zmx=some fr):fr.ok P o ρ:=by
 have ops: ∀(M:Mem) (a:Act),(∀y∈o.op.operands,∀z,ρ y=some z→VRel M z (a.eval y))→
   VRel M zx (a.eval x)∧((∀i,zlo=some i→ ∃v,lo.map a.eval=some v∧VRel M i v)∧(zlo=none→lo.map a.eval=none))∧
   ((∀i,zhi=some i→ ∃v,hi.map a.eval=some v∧VRel M i v)∧(zhi=none→hi.map a.eval=none))∧
   ((∀i,zmx=some i→ ∃v,mx.map a.eval=some v∧VRel M i v)∧(zmx=none→mx.map a.eval=none)):=by
  intro M a hr
  refine⟨hr x (by simp [ho,Op.operands]) _ hx,?_,?_,?_⟩
  ·exact qiW a (qcR hlo).1 (qcR hlo).2 fun y hy i hi=>hr y (by simp [ho,Op.operands,hy]) i hi
  ·exact qiW a (qcR hhi).1 (qcR hhi).2 fun y hy i hi=>hr y (by simp [ho,Op.operands,hy]) i hi
  ·exact qiW a (qcR hmx).1 (qcR hmx).2 fun y hy i hi=>hr y (by simp [ho,Op.operands,hy]) i hi
 unfold qez at h
 split at h
 ·-- no third bound
  split at h
  ·rename_i s rows
   split at h
   ·rename_i n l hh hn hb
    split at h
    ·rename_i hs
     subst hs
     simp only [Option.some.injEq] at h;subst h
     obtain⟨e,he,hn⟩:=qdL hn
     refine .read fun M a hM hR hr=>?_
     obtain⟨hvx,⟨l1,l2⟩,⟨h1,h2⟩,⟨m1,m2⟩⟩:=ops M a hr
     obtain⟨a0,cap,c,o',e1,g1,g2,g3,g4,g5⟩:=hvx.imm_inv
     obtain⟨hrun,hle,hle2⟩:=run_bounds (P:=P) hb true cap g1 l1 l2 h1 h2 M.w
     have hrun2:=qbv (P:=P) he hn (a:=a0) (len:=rows.length) hrun
     refine⟨_,by simp only [execOp,ho,e1,m2 rfl];rw [Sem.run_bind,hrun2];rfl,?_⟩
     have hlen:((rows.drop l).take (hh - l)).length=hh - l:=by rw [List.length_take,List.length_drop];omega
     have key:PRel M.w M.own (.imm n ((rows.drop l).take (hh - l))) (.slice (if cap=l then a0 else a0.map (·.add (l * n))) ((rows.drop l).take (hh - l)).length (cap - l)):=by
      refine .mk_imm (c:=c) (o:=o'+l * n) (by rw [hlen];omega) (by omega) ?_ ?_ ?_
      ·intro h0
       rw [hlen] at h0
       obtain⟨q1,q2,q3⟩:=g3 (by omega)
       rw [if_neg (by omega),q1]
       exact⟨by simp [qbj],q2,q3⟩
      ·intro i row hi
       rw [List.getElem?_take] at hi
       split at hi
       ·rw [List.getElem?_drop] at hi;exact g4 _ row hi
       ·cases hi
      ·intro i row j x hi hj
       rw [List.getElem?_take] at hi
       split at hi
       ·rw [List.getElem?_drop] at hi
        obtain⟨u,u1,u2,u3⟩:=g5 _ row j x hi hj
        exact⟨u,by rw [←u1];congr 2;rw [Nat.add_mul];omega,u2,u3⟩
       ·cases hi
     rw [hlen] at key
     exact .p _ _ key
    ·cases h
   ·cases h
  ·rename_i b g off len
   split at h
   ·rename_i n l hh s g' rows hn hb hG
    split at h
    ·rename_i hg
     obtain⟨rfl,rfl⟩:=hg
     simp only [Option.some.injEq] at h;subst h
     obtain⟨e,he,hn⟩:=qdL hn
     refine .read fun M a hM hR hr=>?_
     obtain⟨hvx,⟨l1,l2⟩,⟨h1,h2⟩,⟨m1,m2⟩⟩:=ops M a hr
     have hb':M.H.G b=some (.arr n g rows):=hR (b,_) (by simp)
     obtain⟨a0,cap,e1,q1,q2,q3,q4⟩:=hvx.ref_inv hb' rfl
     simp only [IBlk.len,IBlk.sz] at q2 q3 q4
     obtain⟨hrun,hle,hle2⟩:=run_bounds (P:=P) hb true cap q1 l1 l2 h1 h2 M.w
     have hrun2:=qbv (P:=P) he hn (a:=a0) (len:=len) hrun
     refine⟨_,by simp only [execOp,ho,e1,m2 rfl];rw [Sem.run_bind,hrun2];rfl,?_⟩
     refine .ref b g (off+l) (hh - l) _ (hM.dom b _ hb') ⟨_,_,rfl⟩ fun blk hblk=>?_
     rw [hb'] at hblk;cases hblk
     refine⟨Nat.le_refl _,fun _=>⟨_,_,rfl,by omega,by simp only [IBlk.len];omega,by simp only [IBlk.len];omega,?_⟩⟩
     rcases q4 with q4 | ⟨c,o',n',q5,q6,q7⟩
     ·exact .inl (by omega)
     ·by_cases hcl:cap=l
      ·exact .inl (by omega)
      ·refine .inr ⟨c,o',n',q5,?_,by omega⟩
       rw [if_neg hcl,q6]
       simp only [Option.map_some,qbj,IBlk.sz]
       congr 2
       rw [Nat.add_mul];omega
    ·cases h
   ·cases h
  ·split at h
   ·rename_i n lh hn hb
    obtain⟨l,hh⟩:=lh
    simp only [Option.some.injEq] at h;subst h
    obtain⟨e,he,hn⟩:=qdL hn
    refine .read fun M a hM hR hr=>?_
    obtain⟨hvx,⟨l1,l2⟩,⟨h1,h2⟩,⟨m1,m2⟩⟩:=ops M a hr
    generalize hq:a.eval x=q at hvx
    cases hvx with
    | p y v h=>
      cases h with
      | emp a0=>
        obtain⟨hrun,hle,hle2⟩:=run_bounds (P:=P) hb true 0 (Nat.le_refl _) l1 l2 h1 h2 M.w
        have hrun2:=qbv (P:=P) he hn (a:=a0) (len:=0) hrun
        have e0:hh=0:=by omega
        have e1:l=0:=by omega
        subst e0;subst e1
        refine⟨.slice a0 0 0,by simp only [execOp,ho,hq,m2 rfl];rw [Sem.run_bind,hrun2];rfl, .p _ _ (.emp a0)⟩
   ·cases h
  ·split at h
   ·rename_i n lh hn hb
    obtain⟨l,hh⟩:=lh
    simp only [Option.some.injEq] at h;subst h
    obtain⟨e,he,hn⟩:=qdL hn
    refine .read fun M a hM hR hr=>?_
    obtain⟨hvx,⟨l1,l2⟩,⟨h1,h2⟩,⟨m1,m2⟩⟩:=ops M a hr
    have hq:=hvx.sc_inv
    obtain⟨hrun,hle,hle2⟩:=run_bounds (P:=P) hb true 0 (Nat.le_refl _) l1 l2 h1 h2 M.w
    have hrun2:=qbv (P:=P) he hn (a:=none) (len:=0) hrun
    have e0:hh=0:=by omega
    have e1:l=0:=by omega
    subst e0;subst e1
    refine⟨.slice none 0 0,by simp only [execOp,ho,hq,m2 rfl];rw [Sem.run_bind,hrun2];rfl, .sc M _⟩
   ·cases h
  ·rename_i s
   split at h
   ·rename_i l hh ht hb
    simp only [Option.some.injEq] at h;subst h
    obtain⟨d,hu,hd⟩:=qaZ ht
    simp only at hd;subst hd
    refine .read fun M a hM hR hr=>?_
    obtain⟨hvx,⟨l1,l2⟩,⟨h1,h2⟩,⟨m1,m2⟩⟩:=ops M a hr
    have hq:=hvx.sc_inv
    obtain⟨hrun,hle,hle2⟩:=run_bounds (P:=P) hb false s.size (Nat.le_refl _) l1 l2 h1 h2 M.w
    refine⟨.string (s.extract l hh),?_, .sc M _⟩
    simp only [execOp,ho,hq,m2 rfl]
    simp only [Instr.sliceAt,Instr.slice,Sem.run_bind,run_underlying hu,Result.andThen_ok,Option.isSome_none,Bool.false_eq_true,if_false,hrun,Sem.run_pure]
   ·cases h
  ·cases h
 ·-- x[:0:0]
  rename_i m
  have emp3: ∀(n:Nat) (hn:(tel P t).bind (tsz P ·)=some n) (hm:sbd (some m) 0 0=some 0) (hhi:sbd zhi 0 1=some 0) (hlo:sbd zlo 0 0=some 0) (M:Mem) (a:Act) (a0:Option Addr) (len cap:Nat),
    (∀y∈o.op.operands,∀z,ρ y=some z→VRel M z (a.eval y))→a.eval x= .slice a0 len cap→
    ∃a1,(a0=none→a1=none)∧(execOp a.eval o).run P M.w= .ok (.value (.slice a1 0 0)) M.w:=by
   intro n hn hm hhi hlo M a a0 len cap hr hq
   obtain⟨e,he,hn⟩:=qdL hn
   obtain⟨_,⟨l1,l2⟩,⟨h1,h2⟩,⟨m1,m2⟩⟩:=ops M a hr
   obtain⟨vm,e1,r1⟩:=m1 m rfl
   cases zhi with
   | none=>simp [sbd] at hhi
   | some ih=>
     obtain⟨vh,e2,r2⟩:=h1 ih rfl
     have b1:=(qbf (P:=P) (code:= .slice3Acap) hm r1 cap (Nat.zero_le _) M.w).1
     have b2:=(qbf (P:=P) (code:= .slice3B) hhi r2 0 (Nat.le_refl _) M.w).1
     have b3:(lo.map a.eval=none)∨ ∃v,lo.map a.eval=some v∧ ∀code,(Instr.sliceBound v 0 code).run P M.w= .ok 0 M.w:=by
      cases zlo with
      | none=>exact .inl (l2 rfl)
      | some il=>
        obtain⟨vl,e3,r3⟩:=l1 il rfl
        exact .inr ⟨vl,e3,fun code=>(qbf (P:=P) hlo r3 0 (Nat.le_refl _) M.w).1⟩
     have hbs:(Instr.sliceBounds true len cap (lo.map a.eval) (some vh) (some vm)).run P M.w= .ok (0,0,0) M.w:=by
      unfold Instr.sliceBounds
      rcases b3 with e3 | ⟨vl,e3,e4⟩
      ·rw [e3];simp [b1,b2]
      ·rw [e3];simp [b1,b2,e4]
     have hrun2:=qbv (P:=P) he hn (a:=a0) (len:=len) hbs
     refine⟨a0,fun h=>h,?_⟩
     simp only [execOp,ho,hq,e1,e2]
     rw [Sem.run_bind,hrun2]
     rfl
  split at h
  ·rename_i n s rows hn hm hhi hlo
   simp only [Option.some.injEq] at h;subst h
   refine .read fun M a hM hR hr=>?_
   obtain⟨a0,cap,c,o',e1,_⟩:=((ops M a hr).1).imm_inv
   obtain⟨a1,_,hrun⟩:=emp3 n hn hm hhi hlo M a a0 _ cap hr e1
   exact⟨_,hrun, .p _ _ (.emp a1)⟩
  ·rename_i n b g off len hn hm hhi hlo
   simp only [Option.some.injEq] at h;subst h
   refine .read fun M a hM hR hr=>?_
   obtain⟨a0,cap,e1⟩:=((ops M a hr).1).ref_any
   obtain⟨a1,_,hrun⟩:=emp3 n hn hm hhi hlo M a a0 _ cap hr e1
   exact⟨_,hrun, .p _ _ (.emp a1)⟩
  ·rename_i n hn hm hhi hlo
   simp only [Option.some.injEq] at h;subst h
   refine .read fun M a hM hR hr=>?_
   have hvx:=(ops M a hr).1
   generalize hq:a.eval x=q at hvx
   cases hvx with
   | p y v h=>
     cases h with
     | emp a0=>
       obtain⟨a1,_,hrun⟩:=emp3 n hn hm hhi hlo M a a0 0 0 hr hq
       exact⟨_,hrun, .p _ _ (.emp a1)⟩
  ·rename_i n hn hm hhi hlo
   simp only [Option.some.injEq] at h;subst h
   refine .read fun M a hM hR hr=>?_
   have hq:=((ops M a hr).1).sc_inv
   obtain⟨a1,e1,hrun⟩:=emp3 n hn hm hhi hlo M a none 0 0 hr hq
   rw [e1 rfl] at hrun
   exact⟨_,hrun, .sc M _⟩
  ·cases h
/-! ### closures, interface values, nil checks -/
def qbr (ρ:Operand→Option IV):List Operand→Option (List IV)
 | []=>some []
 | y::r=>match ρ y,qbr ρ r with
   | some z,some zs=>some (z::zs)
   | _,_=>none
theorem qbo {M:Mem} {a:Act}: ∀ {ys:List Operand} {zs:List IV},qbr ρ ys=some zs→(∀y∈ys,∀z,ρ y=some z→VRel M z (a.eval y))→
  (ys.map a.eval).length=zs.length∧ ∀(i:Nat) (x:IV) (v:Value),zs[i]? =some x→(ys.map a.eval)[i]? =some v→VRel M x v
 | [],zs,h,_=>by
   simp only [qbr,Option.some.injEq] at h;subst h;simp
 | y::r,zs,h,hr=>by
   unfold qbr at h
   split at h
   ·rename_i z zs' hz hzs
    simp only [Option.some.injEq] at h;subst h
    obtain⟨h1,h2⟩:=qbo hzs fun y' hy'=>hr y' (List.mem_cons_of_mem _ hy')
    refine⟨by simp at h1 ⊢;exact h1,fun i x v hi hv=>?_⟩
    cases i with
    | zero=>simp at hi hv;subst hi;subst hv;exact hr y (by simp) z hz
    | succ i=>simp only [List.map_cons,List.getElem?_cons_succ] at hi hv;exact h2 i x v hi hv
   ·cases h
theorem f_func {fn:Fn} {first cap:List Operand} {zf zc:List IV} (ho:o.op= .makeFunc fn ⟨first⟩ ⟨cap⟩) (hf:qbr ρ first=some zf) (hc:qbr ρ cap=some zc):
  qbh P o ρ [] [] (.clo fn zf zc) []:=by
 refine .read fun M a _ _ hr=>?_
 obtain⟨f1,f2⟩:=qbo (M:=M) (a:=a) hf fun y hy=>hr y (by simp [ho,Op.operands,hy])
 obtain⟨c1,c2⟩:=qbo (M:=M) (a:=a) hc fun y hy=>hr y (by simp [ho,Op.operands,hy])
 exact⟨.func fn ⟨first.map a.eval⟩ ⟨cap.map a.eval⟩,by simp [execOp,ho,Instr.makeFunc], .clo fn zf zc _ _ f1 c1 f2 c2⟩
def scs:List IV→Option (List Value)
 | []=>some []
 | .p (.sc v)::r=>(scs r).map (v::·)
 | _=>none
theorem qde {M:Mem}: ∀ {cs:List IV} {vs us:List Value},scs cs=some vs→us.length=cs.length→
  (∀(i:Nat) (x:IV) (v:Value),cs[i]? =some x→us[i]? =some v→VRel M x v)→us=vs
 | [],vs,us,h,hl,_=>by simp only [scs,Option.some.injEq] at h;subst h;exact List.eq_nil_of_length_eq_zero hl
 | x::r,vs,us,h,hl,hr=>by
   cases us with
   | nil=>simp at hl
   | cons u us=>
     unfold scs at h
     split at h
     ·rename_i h0;cases h0
     ·rename_i v r' e
      injection e with e1 e2
      subst e1;subst e2
      cases hs:scs r with
      | none=>simp [hs] at h
      | some vs'=>
        simp only [hs,Option.map_some,Option.some.injEq] at h
        subst h
        have h0:=hr 0 _ u rfl rfl
        have ht:=qde (M:=M) (us:=us) hs (by simpa using hl) fun i x v hi hv=>hr (i+1) x v (by simpa using hi) (by simpa using hv)
        rw [h0.sc_inv,ht]
     ·cases h
def fiface (P:Program) (t:TypeId):IV→Option FR
 | .p (.sc v)=>match tkd P t with
   | some .iface=>none
   | some _=>some {x:= .p (.sc (.iface t v))}
   | none=>none
 | .agg cs=>match tkd P t,scs cs with
   | some .iface,_=>none
   | some _,some vs=>some {x:= .p (.sc (.iface t (.agg ⟨vs⟩)))}
   | _,_=>none
 | _=>none
theorem qgL {t:TypeId} {k:TK} (h:tkd P t=some k) (hk:k≠ .iface) (v:Value) (w:World):(Instr.makeInterface t v).run P w= .ok (.iface t v) w:=by
 unfold tkd at h
 cases hu:P.underlying t with
 | none=>simp [hu] at h
 | some d=>
   simp only [hu,Option.map_some,Option.some.injEq] at h
   unfold Instr.makeInterface
   rw [Sem.run_bind,run_underlying hu]
   cases d<;>first | rfl | (exfalso;apply hk;rw [←h])
theorem f_iface {t:TypeId} {x:Operand} {zx:IV} {fr:FR} (ho:o.op= .makeInterface t x) (hx:ρ x=some zx) (h:fiface P t zx=some fr):fr.ok P o ρ:=by
 unfold fiface at h
 split at h
 ·rename_i v
  split at h
  ·cases h
  ·rename_i k hne hk
   simp only [Option.some.injEq] at h;subst h
   refine .read fun M a _ _ hr=>⟨_,?_, .sc M _⟩
   have e:=(hr x (by simp [ho,Op.operands]) _ hx).sc_inv
   simp only [execOp,ho,e]
   rw [Sem.run_bind,qgL hk hne]
   rfl
  ·cases h
 ·rename_i cs
  split at h
  ·cases h
  ·rename_i k vs hne hk hs
   simp only [Option.some.injEq] at h;subst h
   refine .read fun M a _ _ hr=>⟨_,?_, .sc M _⟩
   obtain⟨us,e,hl,_,hv⟩:=(hr x (by simp [ho,Op.operands]) _ hx).agg_inv
   have:=qde hs hl hv
   subst this
   simp only [execOp,ho,e]
   rw [Sem.run_bind,qgL hk hne]
   rfl
  ·cases h
 ·cases h
def fnil:IV→Option FR
 | .ptr b g r j=>some {x:= .ptr b g r j}
 | .p (.rp cells)=>some {x:= .p (.rp cells)}
 | .clo (.func f) first cap=>some {x:= .clo (.func f) first cap}
 | .p (.sc (.func (.func f) first cap))=>some {x:= .p (.sc (.func (.func f) first cap))}
 | _=>none
theorem f_nil {x:Operand} {zx:IV} {fr:FR} (ho:o.op= .nilCheck x) (hx:ρ x=some zx) (h:fnil zx=some fr):fr.ok P o ρ:=by
 unfold fnil at h
 split at h
 ·rename_i b g r j
  simp only [Option.some.injEq] at h;subst h
  refine .read fun M a _ _ hr=>?_
  have hv:=hr x (by simp [ho,Op.operands]) _ hx
  obtain⟨c,o',e⟩:=hv.ptr_any
  exact⟨a.eval x,by simp [execOp,ho,e],hv⟩
 ·rename_i cells
  simp only [Option.some.injEq] at h;subst h
  refine .read fun M a _ _ hr=>?_
  have hv:=hr x (by simp [ho,Op.operands]) _ hx
  obtain⟨c,o',e,_⟩:=hv.rp_inv
  exact⟨a.eval x,by simp [execOp,ho,e],hv⟩
 ·rename_i f first cap
  simp only [Option.some.injEq] at h;subst h
  refine .read fun M a _ _ hr=>?_
  have hv:=hr x (by simp [ho,Op.operands]) _ hx
  refine⟨a.eval x,?_,hv⟩
  generalize hq:a.eval x=q at hv
  cases hv with
  | clo fn first cap vf vc hf hc rf rc=>simp [execOp,ho,hq]
 ·rename_i f first cap
  simp only [Option.some.injEq] at h;subst h
  refine .read fun M a _ _ hr=>?_
  have hv:=hr x (by simp [ho,Op.operands]) _ hx
  refine⟨a.eval x,?_,hv⟩
  have e:=hv.sc_inv
  simp [execOp,ho,e]
 ·cases h
/-! ### min, max of integers -/
def imax:Value→List Value→Option Value
 | v, []=>some v
 | .int k x, .int k' y::r=>if k=k' then imax (.int k (if x < y then y else x)) r else none
 | _,_=>none
def imin:Value→List Value→Option Value
 | v, []=>some v
 | .int k x, .int k' y::r=>if k=k' then imin (.int k (if y < x then y else x)) r else none
 | _,_=>none
theorem qlS: ∀(l:List Value) (v u:Value) (w:World),imax v l=some u→(l.foldlM Builtin.max2 v:Sem Value).run P w= .ok u w
 | [],v,u,w,h=>by simp only [imax,Option.some.injEq] at h;subst h;rfl
 | y::r,v,u,w,h=>by
   unfold imax at h
   split at h
   ·rename_i h0;cases h0
   ·rename_i k x k' y' r' e
    injection e with e1 e2
    subst e1;subst e2
    split at h
    ·rename_i hk
     subst hk
     have:=qlS r _ u w h
     simp only [List.foldlM_cons,Sem.run_bind,Builtin.max2,Sem.run_pure,Result.andThen_ok]
     exact this
    ·cases h
   ·cases h
theorem run_imin: ∀(l:List Value) (v u:Value) (w:World),imin v l=some u→(l.foldlM Builtin.min2 v:Sem Value).run P w= .ok u w
 | [],v,u,w,h=>by simp only [imin,Option.some.injEq] at h;subst h;rfl
 | y::r,v,u,w,h=>by
   unfold imin at h
   split at h
   ·rename_i h0;cases h0
   ·rename_i k x k' y' r' e
    injection e with e1 e2
    subst e1;subst e2
    split at h
    ·rename_i hk
     subst hk
     have:=run_imin r _ u w h
     simp only [List.foldlM_cons,Sem.run_bind,Builtin.min2,Sem.run_pure,Result.andThen_ok]
     exact this
    ·cases h
   ·cases h
def fmax (mx:Bool) (zs:List IV):Option FR:=
 match scs zs with
 | some (v::vs)=>(if mx then imax v vs else imin v vs).map fun u=> {x:= .p (.sc u)}
 | _=>none
theorem f_max {mx:Bool} {args:List Operand} {ts:Array TypeId} {zs:List IV} {fr:FR} (ho:o.op= .call {callee:= .builtin (if mx then .max else .min),args:=⟨args⟩,argTypes:=ts})
  (hz:qbr ρ args=some zs) (h:fmax mx zs=some fr):fr.ok P o ρ:=by
 unfold fmax at h
 split at h
 ·rename_i v vs hs
  cases hm:(if mx then imax v vs else imin v vs) with
  | none=>simp [hm] at h
  | some u=>
    simp only [hm,Option.map_some,Option.some.injEq] at h;subst h
    refine .read fun M a _ _ hr=>⟨u,?_, .sc M u⟩
    obtain⟨h1,h2⟩:=qbo (M:=M) (a:=a) hz fun y hy=>hr y (by
     cases mx<;>simp [ho,Op.operands,Call.operands,hy])
    have e:=qde hs h1 h2
    cases mx
    ·simp only [Bool.false_eq_true,if_false] at hm ho
     simp only [execOp,ho,resolve,invoke,builtin,Sem.run_bind,Sem.run_pure,Result.andThen_ok,Builtin.min_,List.map_toArray,e]
     rw [run_imin vs v u M.w hm]
     rfl
    ·simp only [if_true] at hm ho
     simp only [execOp,ho,resolve,invoke,builtin,Sem.run_bind,Sem.run_pure,Result.andThen_ok,Builtin.max_,List.map_toArray,e]
     rw [qlS vs v u M.w hm]
     rfl
 ·cases h
end Go.Idl
/-
 The operations that make memory or write it: box, alloc, make, store, append, copy; builds of structs and slices.
-/
namespace Go.Idl
variable {P:Program} {o:Oper} {ρ:Operand→Option IV} {G:Nat→Option IBlk}
/-! ### the cells of a value -/
def qbq:IV→Option (List IV)
 | .agg cs=>some cs
 | .p (.sc v)=>if v.oneCell' then some [.p (.sc v)] else none
 | .tup _=>none
 | .dead=>none
 | x=>some [x]
structure qaQ (M:Mem) (cs:List IV) (vs:List Value):Prop where
 len:vs.length=cs.length
 one: ∀v∈vs,v.oneCell'=true
 rel: ∀(i:Nat) (x:IV) (v:Value),cs[i]? =some x→vs[i]? =some v→VRel M x v
theorem qaQ.get {M:Mem} {cs:List IV} {vs:List Value} (h:qaQ M cs vs) {i:Nat} {x:IV} (hi:cs[i]? =some x): ∃v,vs[i]? =some v∧v.oneCell'=true∧VRel M x v:=by
 have hlt:i < vs.length:=by
  rw [h.len]
  rcases Nat.lt_or_ge i cs.length with h' | h'
  ·exact h'
  ·rw [List.getElem?_eq_none h'] at hi;cases hi
 exact⟨vs[i],List.getElem?_eq_getElem hlt,h.one _ (List.getElem_mem hlt),h.rel i x _ hi (List.getElem?_eq_getElem hlt)⟩
theorem qaQ.step {M M':Mem} {cs:List IV} {vs:List Value} (h:qaQ M cs vs) (s:qae M M'):qaQ M' cs vs:=
 ⟨h.len,h.one,fun i x v hi hv=>(h.rel i x v hi hv).step s⟩
theorem qaQ.one_ {M:Mem} {x:IV} {v:Value} (h1:v.oneCell'=true) (hv:VRel M x v):qaQ M [x] [v]:=
 ⟨rfl,by simpa using h1,fun i y u hi hu=>by
  cases i with
  | zero=>simp at hi hu;subst hi;subst hu;exact hv
  | succ i=>simp at hi⟩
theorem qgQ {M:Mem} {x:IV} {cs:List IV} {v:Value} (h:qbq x=some cs) (hv:VRel M x v): ∃vs:List Value,v.cells=⟨vs⟩∧qaQ M cs vs:=by
 have one:v.oneCell'=true→cs= [x]→ ∃vs:List Value,v.cells=⟨vs⟩∧qaQ M cs vs:=by
  intro h1 e
  subst e
  refine⟨[v],?_, .one_ h1 hv⟩
  cases v<;>first | rfl | (simp [Value.oneCell'] at h1)
 cases hv with
 | p y v h'=>
   cases h' with
   | sc v=>
     simp only [qbq] at h
     split at h
     ·rename_i h1;simp only [Option.some.injEq] at h;exact one h1 h.symm
     ·cases h
   | emp a=>simp only [qbq,Option.some.injEq] at h;exact one rfl h.symm
   | imm sz rows a cap c o f hl hm ha hs hc hr=>simp only [qbq,Option.some.injEq] at h;exact one rfl h.symm
   | rp cells c o f ha hc hr=>simp only [qbq,Option.some.injEq] at h;exact one rfl h.symm
   | nan k b hb=>simp only [qbq,Option.some.injEq] at h;exact one rfl h.symm
 | ref b g off len v hA hv' h'=>obtain⟨a,cap,rfl⟩:=hv';simp only [qbq,Option.some.injEq] at h;exact one rfl h.symm
 | ptr b g r j v hA hv' h'=>obtain⟨c,o',rfl⟩:=hv';simp only [qbq,Option.some.injEq] at h;exact one rfl h.symm
 | mp b v hA hv' h'=>obtain⟨k,c,rfl⟩:=hv';simp only [qbq,Option.some.injEq] at h;exact one (qrK k c) h.symm
 | clo fn first cap vf vc hf hc rf rc=>simp only [qbq,Option.some.injEq] at h;exact one rfl h.symm
 | agg cs' vs hl h1 r=>simp only [qbq,Option.some.injEq] at h;subst h;exact⟨vs,rfl,hl,h1,r⟩
 | tup cs' vs hl r=>simp [qbq] at h
 | dead v=>simp [qbq] at h
/-! ### box, alloc -/
theorem qcr (H:AH) (b:Nat) (blk:IBlk):H.upd [(b,blk)]=H.put b blk:=rfl
theorem qnC {M:Mem} (hM:MRel M) {b:Nat} (hb: ¬M.H.A b) {cs:List IV} {vs:List Value} (h:qaQ M cs vs) (ty:TypeId):
  ∃M':Mem,M'.w=M.w.alloc (.cells ⟨vs⟩ ty)∧qae M M'∧MRel M'∧M'.H=M.H.put b (.arr cs.length 0 [cs])∧VRel M' (.ptr b 0 0 0) (.pointer (some ⟨M.w.heap.size,0,none⟩)):=by
 obtain⟨s,r⟩:=qda hM b hb cs.length 0 1 [cs] ⟨vs⟩ ty (by simp) (by simp) (by unfold maxLen;omega) (qbi.all (by simp [h.len]) (by simpa using h.one)) (by
  intro i row j x hi hj
  cases i with
  | zero=>
    simp at hi;subst hi
    obtain⟨v,v1,v2,v3⟩:=h.get hj
    exact⟨v,by simpa using v1,v2,v3⟩
  | succ i=>simp at hi)
 refine⟨_,rfl,s,r,rfl, .ptr b 0 0 0 _ (.inr rfl) ⟨_,_,rfl⟩ fun blk hblk=>?_⟩
 simp only [AH.put,if_true,Option.some.injEq] at hblk
 subst hblk
 exact⟨Nat.le_refl _,fun _=>⟨M.w.heap.size,0,1,by simp [putβ],by simp⟩⟩
def fbox (nx:Nat) (x:IV):Option FR:=(qbq x).map fun cs=> {x:= .ptr nx 0 0 0,F:= [nx],W:= [(nx, .arr cs.length 0 [cs])]}
theorem f_box {t:TypeId} {x:Operand} {zx:IV} {nx:Nat} {fr:FR} (ho:o.op= .box t x) (hx:ρ x=some zx) (h:fbox nx zx=some fr):fr.ok P o ρ:=by
 unfold fbox at h
 cases hc:qbq zx with
 | none=>simp [hc] at h
 | some cs=>
   simp only [hc,Option.map_some,Option.some.injEq] at h;subst h
   refine .does fun M a hM _ hF hr=>?_
   obtain⟨vs,e,hcs⟩:=qgQ hc (hr x (by simp [ho,Op.operands]) _ hx)
   obtain⟨M',h0,h1,h2,h3,h4⟩:=qnC hM (hF nx (by simp)) hcs t
   refine⟨_,M',?_,h1,h2,h3,h4⟩
   rw [h0]
   simp [execOp,ho,Instr.box,newVar,newRow,e]
theorem qi6 {t:TypeId} {zs:List Value} (h:tze P t=some zs): ∃z,z.cells=⟨zs⟩∧ ∀w,(zeroValue t).run P w= .ok z w:=by
 unfold tze at h
 cases hi:P.info? t with
 | none=>simp [hi] at h
 | some i=>
   cases hz:i.zero with
   | none=>simp [hi,hz] at h
   | some z=>
     simp [hi,hz] at h
     exact⟨z,by rw [←h],fun w=>by simp [zeroValue,typeInfo,hi,hz]⟩
def zcs (zs:List Value):List IV:=zs.map fun v=> .p (.sc v)
theorem qcs (M:Mem) {zs:List Value} (h:zs.all (·.oneCell')=true):qaQ M (zcs zs) zs:=
 ⟨by simp [zcs],by simpa using h,fun i x v hi hv=>by
  simp only [zcs,List.getElem?_map,hv,Option.map_some,Option.some.injEq] at hi
  subst hi;exact .sc M v⟩
def qet (P:Program) (nx:Nat) (t:TypeId):Option FR:=
 match tze P t with
 | some zs=>if zs.all (·.oneCell') then some {x:= .ptr nx 0 0 0,F:= [nx],W:= [(nx, .arr zs.length 0 [zcs zs])]} else none
 | none=>none
theorem qrv {t:TypeId} {nx:Nat} {fr:FR} (ho:o.op= .alloc t) (h:qet P nx t=some fr):fr.ok P o ρ:=by
 unfold qet at h
 split at h
 ·rename_i zs hz
  split at h
  ·rename_i h1
   simp only [Option.some.injEq] at h;subst h
   obtain⟨z,e,hrun⟩:=qi6 hz
   refine .does fun M a hM _ hF hr=>?_
   obtain⟨M',g0,g1,g2,g3,g4⟩:=qnC hM (hF nx (by simp)) (qcs M h1) t
   refine⟨_,M',?_,g1,g2,by rw [qcr];simpa [zcs] using g3,g4⟩
   rw [g0]
   simp [execOp,ho,Instr.alloc,hrun,newVar,newRow,e]
  ·cases h
 ·cases h
/-! ### make -/
def fmake (P:Program) (nx:Nat) (t:TypeId) (l c:IV):Option FR:=
 match l,c with
 | .p (.sc (.int _ l)), .p (.sc (.int _ c))=>match tel P t with
   | some e=>match tze P e,tsz P e,tby P e with
     | some zs,some sz,some by_=>
       if 0≤l∧l≤c∧c≤9223372036854775807∧by_ * c≤281474976710656∧zs.length=sz∧zs.all (·.oneCell') then
        some {x:= .ref nx 0 0 l.toNat,F:= [nx],W:= [(nx, .arr sz 0 (List.replicate l.toNat (zcs zs)))]}
       else none
     | _,_,_=>none
   | none=>none
 | _,_=>none
theorem f_make {t:TypeId} {l c:Operand} {zl zc:IV} {nx:Nat} {fr:FR} (ho:o.op= .makeSlice t l c) (hl:ρ l=some zl) (hc:ρ c=some zc)
  (h:fmake P nx t zl zc=some fr):fr.ok P o ρ:=by
 unfold fmake at h
 split at h
 ·rename_i kl l' kc c'
  split at h
  ·rename_i e he
   split at h
   ·rename_i zs sz by_ hz hs hb
    split at h
    ·rename_i hcd
     obtain⟨c1,c2,c3,c4,c5,c6⟩:=hcd
     simp only [Option.some.injEq] at h;subst h
     subst c5
     cases hi:P.info? e with
     | none=>simp [tsz,hi] at hs
     | some i=>
       simp only [tsz,tby,tze,hi,Option.map_some,Option.some.injEq,Option.bind_some] at hs hb hz
       cases hiz:i.zero with
       | none=>simp [hiz] at hz
       | some z=>
         simp only [hiz,Option.map_some,Option.some.injEq] at hz
         refine .does fun M a hM _ hF hr=>?_
         have e1:=(hr l (by simp [ho,Op.operands]) _ hl).sc_inv
         have e2:=(hr c (by simp [ho,Op.operands]) _ hc).sc_inv
         have hrun:=run_make (P:=P) M.w t e i z (und_tel he) hi hiz kl kc l' c' c1 c2 (by rw [hb];exact c4) c3
         obtain⟨n,rfl⟩:=Int.eq_ofNat_of_zero_le c1
         obtain⟨m,rfl⟩:=Int.eq_ofNat_of_zero_le (show 0≤c' by omega)
         simp only [Int.toNat_natCast] at *
         have hzc:z.cells.toList=zs:=hz
         have hzl:z.cells.size=zs.length:=by rw [←hzc];simp
         have hget: ∀k,k < m * zs.length→(madeCells z.cells (m * i.size))[k]? =zs[k % zs.length]? :=by
          intro k hk
          rw [hs]
          have hp:=(qh4 (Nat.lt_of_le_of_lt (Nat.zero_le k) hk)).2
          have hm:k % zs.length < zs.length:=Nat.mod_lt _ hp
          simp only [madeCells,Array.getElem?_map,Array.getElem?_range,hk,if_true,Option.map_some,hzl]
          rw [List.getElem?_eq_getElem hm,getElem!_pos z.cells (k % zs.length) (by rw [hzl];exact hm)]
          congr 1
          have:z.cells.toList[k % zs.length]'(by simp [hzl];exact hm)=zs[k % zs.length]:=by simp [hzc]
          rw [←this];simp
         have hza:=qcs M c6
         obtain⟨s,r⟩:=qda hM nx (hF nx (by simp)) zs.length 0 m (List.replicate n (zcs zs)) (madeCells z.cells (m * i.size)) e
          (by intro row hrow;rw [List.eq_of_mem_replicate hrow];simp [zcs]) (by simp;omega) (by unfold maxLen;omega) ⟨by rw [size_madeCells,hs];omega,fun j v hj hv=>by
           rw [Nat.zero_add,hget j hj] at hv
           exact List.all_eq_true.1 c6 v (List.mem_of_getElem? hv)⟩ (by
           intro a' row j x hi' hj
           have ha':a' < n:=by
            rcases Nat.lt_or_ge a' n with h' | h'
            ·exact h'
            ·rw [List.getElem?_eq_none (by simpa using h')] at hi';cases hi'
           rw [List.getElem?_replicate,if_pos ha'] at hi'
           cases hi'
           obtain⟨v,v1,v2,v3⟩:=hza.get hj
           have hjl:j < zs.length:=by
            rcases Nat.lt_or_ge j zs.length with h' | h'
            ·exact h'
            ·rw [List.getElem?_eq_none h'] at v1;cases v1
           refine⟨v,?_,v2,v3⟩
           rw [hget _ (qb6 (by omega) hjl),Nat.mul_comm,Nat.mul_add_mod,Nat.mod_eq_of_lt hjl]
           exact v1)
         refine⟨.slice (some ⟨M.w.heap.size,0,none⟩) n m,_,?_,s,r,rfl,?_⟩
         ·simp only [execOp,ho,e1,e2]
          rw [Sem.run_bind,hrun]
          rfl
         ·refine .ref nx 0 0 n _ (.inr rfl) ⟨_,_,rfl⟩ fun blk hblk=>?_
          simp only [AH.put,if_true,Option.some.injEq] at hblk
          subst hblk
          refine⟨Nat.le_refl _,fun _=>⟨_,_,rfl,by omega,by simp [IBlk.len],by simp [IBlk.len];omega, .inr ⟨M.w.heap.size,0,m,by simp [putβ],by simp,by omega⟩⟩⟩
    ·cases h
   ·cases h
  ·cases h
 ·cases h
/-! ### store -/
def fstore (P:Program) (G:Nat→Option IBlk) (t:TypeId) (p x:IV):Option FR:=
 match p with
 | .ptr b g r j=>match qbq x,G b,tsz P t with
   | some cs,some (.arr sz g' rows),some n=>if g=g'∧cs.length=n then match rows[r]? with
     | some row=>if j+n≤row.length then
       some {x:= .dead,R:= [(b, .arr sz g' rows)],W:= [(b, .arr sz g' (rows.set r (row.take j++cs++row.drop (j+n))))]}
       else none
     | none=>none
     else none
   | _,_,_=>none
 | _=>none
theorem qrE {t:TypeId} {p x:Operand} {zp zx:IV} {fr:FR} (ho:o.op= .store t p x) (hp:ρ p=some zp) (hx:ρ x=some zx)
  (h:fstore P G t zp zx=some fr):fr.ok P o ρ:=by
 unfold fstore at h
 split at h
 ·rename_i b g r j
  split at h
  ·rename_i cs sz g' rows n hcs hG hn
   split at h
   ·rename_i hg
    obtain⟨rfl,rfl⟩:=hg
    split at h
    ·rename_i row hrow
     split at h
     ·rename_i hfit
      simp only [Option.some.injEq] at h;subst h
      refine .skips fun M a hM hR _ hr=>?_
      have hb:M.H.G b=some (.arr sz g rows):=hR (b,_) (by simp)
      obtain⟨c,o',n',hβ,ep⟩:=(hr p (by simp [ho,Op.operands]) _ hp).ptr_inv hb rfl
      obtain⟨vs,e,hv⟩:=qgQ hcs (hr x (by simp [ho,Op.operands]) _ hx)
      have hbr:=hM.blk b _ hb
      obtain⟨cur,ty,q1,q2,q3,q4,q5⟩:=hbr.2.2 c o' n' hβ
      have hrl:row.length=sz:=hbr.1 row (List.mem_of_getElem? hrow)
      have hrlt:r < rows.length:=by
       rcases Nat.lt_or_ge r rows.length with h' | h'
       ·exact h'
       ·rw [List.getElem?_eq_none h'] at hrow;cases hrow
      have hbound:o'+(r * sz+j)+vs.length≤cur.size:=by
       have h1:r * sz+sz≤n' * sz:=by
        have:(r+1) * sz≤n' * sz:=Nat.mul_le_mul_right _ (by omega)
        rwa [Nat.add_mul,Nat.one_mul] at this
       have:=q4.1;rw [hv.len];omega
      simp only [IBlk.sz] at ep
      have hrun:=run_storeCells_at P c (o'+(r * sz+j)) ty vs 0 cur M.w q1 (by simpa using hbound) hv.one
      simp only [Nat.add_zero] at hrun
      obtain⟨s,rr⟩:=mem_chg hM hb hβ q1 g o' n' (rows.set r (row.take j++cs++row.drop (j+cs.length)))
       (cur.toList.take (o'+(r * sz+j))++vs++cur.toList.drop (o'+(r * sz+j)+vs.length)).toArray
       (Nat.le_refl _) (fun _=>⟨rfl,rfl,by simp⟩) (by
        intro row' hr'
        rcases List.mem_or_eq_of_mem_set hr' with h' | h'
        ·exact hbr.1 row' h'
        ·subst h';simp only [List.length_append,List.length_take,List.length_drop];omega)
       (by simpa using q2) q3 (qbi.put q4 rfl hbound hv.one) (by
        intro i row' k y hi hk
        rw [List.getElem?_set] at hi
        have hcl:cur.toList.length=cur.size:=Array.length_toList
        split at hi
        ·rename_i hri
         subst hri
         first | (rw [if_pos hrlt] at hi;cases hi) | cases hi
         rw [List.getElem?_append,List.length_append,List.length_take] at hk
         have hmin:min j row.length=j:=by omega
         rw [hmin] at hk
         split at hk
         ·rw [List.getElem?_append,List.length_take,hmin] at hk
          split at hk
          ·rename_i h1 h2
           rw [List.getElem?_take,if_pos h2] at hk
           obtain⟨v,v1,v2,v3⟩:=q5 r row k y hrow hk
           refine⟨v,?_,v2,v3⟩
           rw [List.getElem?_toArray,List.append_assoc,List.getElem?_append,List.length_take,if_pos (by omega),List.getElem?_take,if_pos (by omega),Array.getElem?_toList]
           exact v1
          ·rename_i h1 h2
           obtain⟨v,v1,v2,v3⟩:=hv.get hk
           refine⟨v,?_,v2,v3⟩
           have hvl:=hv.len
           rw [List.getElem?_toArray,List.getElem?_append,List.length_append,List.length_take,if_pos (by omega),List.getElem?_append,List.length_take,if_neg (by omega)]
           rw [←v1];congr 1;omega
         ·rename_i h1
          rw [List.getElem?_drop] at hk
          have hkk:k - (j+cs.length)+(j+cs.length)=k:=by omega
          rw [show j+cs.length+(k - (j+cs.length))=k by omega] at hk
          obtain⟨v,v1,v2,v3⟩:=q5 r row k y hrow hk
          refine⟨v,?_,v2,v3⟩
          have hvl:=hv.len
          rw [List.getElem?_toArray,List.getElem?_append,List.length_append,List.length_take,if_neg (by omega),List.getElem?_drop,Array.getElem?_toList]
          rw [←v1];congr 1;omega
        ·rename_i hri
         obtain⟨v,v1,v2,v3⟩:=q5 i row' k y hi hk
         refine⟨v,?_,v2,v3⟩
         have hkl:k < sz:=by
          rw [←hbr.1 row' (List.mem_of_getElem? hi)]
          rcases Nat.lt_or_ge k row'.length with h' | h'
          ·exact h'
          ·rw [List.getElem?_eq_none h'] at hk;cases hk
         have hvl:=hv.len
         have hne:i * sz+k < r * sz+j∨r * sz+j+vs.length≤i * sz+k:=by
          rcases Nat.lt_or_ge i r with h1 | h1
          ·have:(i+1) * sz≤r * sz:=Nat.mul_le_mul_right _ h1
           rw [Nat.add_mul,Nat.one_mul] at this
           left;omega
          ·have:(r+1) * sz≤i * sz:=Nat.mul_le_mul_right _ (by omega)
           rw [Nat.add_mul,Nat.one_mul] at this
           right;omega
         rcases hne with h1 | h1
         ·rw [List.getElem?_toArray,List.append_assoc,List.getElem?_append,List.length_take,if_pos (by
           have:o'+(i * sz+k) < cur.size:=by
            rcases Nat.lt_or_ge (o'+(i * sz+k)) cur.size with h' | h'
            ·exact h'
            ·rw [Array.getElem?_eq_none h'] at v1;cases v1
           omega),List.getElem?_take,if_pos (by omega),Array.getElem?_toList]
          exact v1
         ·rw [List.getElem?_toArray,List.getElem?_append,List.length_append,List.length_take,if_neg (by omega),List.getElem?_drop,Array.getElem?_toList]
          rw [←v1];congr 1;omega)
      refine⟨_,?_,s,rr,?_⟩
      ·have hvl:=hv.len
       simp only [execOp,ho,Instr.storeAt,ep,Instr.sureAddr,storeVar,Sem.run_bind,Sem.run_pure,Result.andThen_ok,qaC hn,e,List.size_toArray,hvl,ne_eq,not_true_eq_false,if_false,hrun]
      ·rfl
     ·cases h
    ·cases h
   ·cases h
  ·cases h
 ·cases h
end Go.Idl
/-
 append and copy.
-/
namespace Go.Idl
variable {P:Program} {o:Oper} {ρ:Operand→Option IV} {G:Nat→Option IBlk}
theorem qqM {M:Mem} (h:MRel M) {b sz g:Nat} {rows:List (List IV)} (hb:M.H.G b=some (.arr sz g rows)) (g':Nat) (hg:g < g'):
  qae M ⟨M.w,M.H.put b (.arr sz g' []),putβ M.β b none⟩∧MRel ⟨M.w,M.H.put b (.arr sz g' []),putβ M.β b none⟩:=by
 have s:qae M ⟨M.w,M.H.put b (.arr sz g' []),putβ M.β b none⟩:=by
  refine⟨rfl,rfl,rfl,Nat.le_refl _,fun c _ ho=>⟨rfl,?_⟩,fun _ h=> .inl h,fun b' blk' hA' hb'=>?_,rfl,fun _ _=>rfl⟩
  ·rintro(hO | ⟨b',blk,o,n',hb',hc'⟩)
   ·exact ho (.inl hO)
   by_cases e:b'=b
   ·simp [putβ,e] at hc'
   ·simp only [AH.put,putβ,e,if_false] at hb' hc'
    exact ho (.inr ⟨b',blk,o,n',hb',hc'⟩)
  ·by_cases e:b'=b
   ·subst e
    simp only [AH.put,if_true,Option.some.injEq] at hb'
    subst hb'
    refine⟨_,hb,rfl,rfl,Nat.le_of_lt hg,fun e=>?_⟩
    simp only [IBlk.gen] at e
    omega
   ·simp only [AH.put,e,if_false] at hb'
    exact⟨blk',hb',rfl,rfl,Nat.le_refl _,fun _=>⟨by simp [putβ,e],rfl⟩⟩
 refine⟨s,h.change s b (.inr rfl) ?_ ?_ ?_ ?_ ?_ ?_⟩
 ·intro b' e;simp [AH.put,e]
 ·intro b' e;simp [putβ,e]
 ·intro b' blk c o n' e hb' hc';rfl
 ·intro blk' hb'
  simp only [AH.put,if_true,Option.some.injEq] at hb'
  subst hb'
  exact⟨by simp,by simp,fun c o n' hc'=>by simp [putβ] at hc'⟩
 ·intro blk' c o n' hb' hc';simp [putβ] at hc'
 ·intro blk' c o n' hb' hc';simp [putβ] at hc'
def iapp (G:Nat→Option IBlk) (sz:Nat):IV→Option (List (List IV) × List (Nat × IBlk))
 | .p (.sc (.string s))=>if sz=1 then some (s.data.toList.map fun b=> [sci .u8 b.toNat], []) else none
 | z=>qco G sz z
structure qo2 (P:Program) (M:Mem) (sz:Nat) (rs:List (List IV)) (v:Value) (news:List Value):Prop where
 len: ∀w,(Builtin.lenOf v).run P w= .ok rs.length w
 wid: ∀row∈rs,row.length=sz
 nl:news.length=rs.length * sz
 get:(Builtin.firstCells sz rs.length v).run P M.w= .ok ⟨news⟩ M.w
 pre: ∀n,n≤rs.length→(Builtin.firstCells sz n v).run P M.w= .ok ⟨news.take (n * sz)⟩ M.w
 one: ∀u∈news,u.oneCell'=true
 rel: ∀(i:Nat) (row:List IV) (j:Nat) (x:IV),rs[i]? =some row→row[j]? =some x→ ∃u,news[i * sz+j]? =some u∧u.oneCell'=true∧VRel M x u
theorem qab {α:Type} {l:List α} {i:Nat} {x:α} (h:l[i]? =some x):i < l.length:=by
 rcases Nat.lt_or_ge i l.length with h' | h'
 ·exact h'
 ·rw [List.getElem?_eq_none h'] at h;cases h
theorem qiJ.arg {M:Mem} {sz:Nat} {rs:List (List IV)} {v:Value} {a:Option Addr} {cap:Nat} {f:Nat→Value} (h:qiJ P M sz rs v a cap f):
  qo2 P M sz rs v ((List.range (rs.length * sz)).map f):=by
 have lt: ∀(i:Nat) (row:List IV) (j:Nat) (x:IV),rs[i]? =some row→row[j]? =some x→i * sz+j < rs.length * sz:=by
  intro i row j x hi hj
  have hjl:=qab hj
  rw [h.wid row (List.mem_of_getElem? hi)] at hjl
  exact qb6 (qab hi) hjl
 refine⟨fun w=>by rw [h.val];rfl,h.wid,by simp,h.pre _ (Nat.le_refl _),fun n hn=>?_,?_,?_⟩
 ·rw [h.pre n hn]
  have hmul:n * sz≤rs.length * sz:=Nat.mul_le_mul_right _ hn
  congr 1
  apply Array.ext'
  rw [←List.map_take,List.take_range,Nat.min_eq_left hmul]
 ·intro u hu
  simp only [List.mem_map,List.mem_range] at hu
  obtain⟨k,hk,rfl⟩:=hu
  obtain⟨i,j,hi,hj,rfl⟩:=qeZ hk
  have hrow:=List.getElem?_eq_getElem hi
  have hw:=h.wid _ (List.getElem_mem hi)
  exact(h.rel i _ j _ hrow (List.getElem?_eq_getElem (show j < (rs[i]).length by omega))).1
 ·intro i row j x hi hj
  refine⟨f (i * sz+j),?_,h.rel i row j x hi hj⟩
  rw [List.getElem?_map,List.getElem?_range (lt i row j x hi hj)]
  rfl
theorem qbz {sz:Nat} {z:IV} {rs:List (List IV)} {R:List (Nat × IBlk)} (h:iapp G sz z=some (rs,R)) {M:Mem} (hM:MRel M)
  (hR: ∀p∈R,M.H.G p.1=some p.2) {v:Value} (hv:VRel M z v): ∃news,qo2 P M sz rs v news:=by
 unfold iapp at h
 split at h
 ·rename_i s
  split at h
  ·rename_i hs
   subst hs
   simp only [Option.some.injEq,Prod.mk.injEq] at h
   obtain⟨rfl,rfl⟩:=h
   have e:=hv.sc_inv
   subst e
   have hsz:s.data.toList.length=s.size:=by rw [Array.length_toList];rfl
   refine⟨s.data.toList.map fun b=> .int .u8 b.toNat,?_,?_,?_,?_,?_,?_,?_⟩
   ·intro w;simp only [Builtin.lenOf,Sem.run_pure,List.length_map,hsz]
   ·intro row hrow;obtain⟨b,_,rfl⟩:=List.mem_map.1 hrow;rfl
   ·simp
   ·simp only [Builtin.firstCells,Sem.run_pure,List.length_map,hsz]
    congr 1
    have:s.extract 0 s.size=s:=by simp
    rw [this]
    apply Array.ext'
    simp
   ·intro n hn
    simp only [Builtin.firstCells,Sem.run_pure]
    congr 1
    apply Array.ext'
    simp
   ·intro u hu;obtain⟨b,_,rfl⟩:=List.mem_map.1 hu;rfl
   ·intro i row j x hi hj
    rw [List.getElem?_map] at hi
    cases hb:s.data.toList[i]? with
    | none=>simp [hb] at hi
    | some b=>
      rw [hb] at hi
      simp only [Option.map_some,Option.some.injEq] at hi
      subst hi
      cases j with
      | zero=>
        simp at hj;subst hj
        exact⟨.int .u8 b.toNat,by rw [List.getElem?_map];simp [hb],rfl, .sc M _⟩
      | succ j=>simp at hj
  ·cases h
 ·obtain⟨a,cap,f,hr⟩:=qek (P:=P) h hM hR hv
  exact⟨_,hr.arg⟩
def qhA (P:Program) (t1 t2:TypeId):Option (TypeId × Nat × Nat × List Value):=
 match tel P t1,tkd P t2 with
 | some e,some (.slice _) | some e,some .string=>match tsz P e,tby P e,tze P e with
   | some sz,some by_,some zs=>if zs.length=sz∧zs.all (·.oneCell')=true then some (e,sz,by_,zs) else none
   | _,_,_=>none
 | _,_=>none
structure qeF (P:Program) (t1 t2 e:TypeId) (sz by_:Nat) (zs:List Value) (i:TypeInfo) (z:Value):Prop where
 u1:P.underlying t1=some (.slice e)
 u2:(∃e2,P.underlying t2=some (.slice e2))∨P.underlying t2=some .string
 inf:P.info? e=some i
 size:i.size=sz
 bytes:i.bytes=by_
 zero:i.zero=some z
 zcl:z.cells=⟨zs⟩
 zl:zs.length=sz
 zone:zs.all (·.oneCell')=true
theorem qi9 {t1 t2 e:TypeId} {sz by_:Nat} {zs:List Value} (h:qhA P t1 t2=some (e,sz,by_,zs)): ∃i z,qeF P t1 t2 e sz by_ zs i z:=by
 have fin:tel P t1=some e→((∃e2,P.underlying t2=some (.slice e2))∨P.underlying t2=some .string)→tsz P e=some sz→tby P e=some by_→tze P e=some zs→zs.length=sz∧zs.all (·.oneCell')=true→ ∃i z,qeF P t1 t2 e sz by_ zs i z:=by
  intro he h2 hs hb hz hzl
  cases hi:P.info? e with
  | none=>simp [tsz,hi] at hs
  | some i=>
    simp only [tsz,tby,tze,hi,Option.map_some,Option.some.injEq,Option.bind_some] at hs hb hz
    cases hiz:i.zero with
    | none=>simp [hiz] at hz
    | some z=>
      simp only [hiz,Option.map_some,Option.some.injEq] at hz
      exact⟨i,z,und_tel he,h2,hi,hs,hb,hiz,by rw [←hz],hzl.1,hzl.2⟩
 unfold qhA at h
 split at h
 ·rename_i e' e2 he hk
  obtain⟨d,hu,hd⟩:=qaZ hk
  simp only at hd;subst hd
  split at h
  ·rename_i s b z hs hb hz
   split at h
   ·rename_i hzl
    simp only [Option.some.injEq,Prod.mk.injEq] at h
    obtain⟨rfl,rfl,rfl,rfl⟩:=h
    exact fin he (.inl ⟨_,hu⟩) hs hb hz hzl
   ·cases h
  ·cases h
 ·rename_i e' he hk
  obtain⟨d,hu,hd⟩:=qaZ hk
  simp only at hd;subst hd
  split at h
  ·rename_i s b z hs hb hz
   split at h
   ·rename_i hzl
    simp only [Option.some.injEq,Prod.mk.injEq] at h
    obtain⟨rfl,rfl,rfl,rfl⟩:=h
    exact fin he (.inr hu) hs hb hz hzl
   ·cases h
  ·cases h
 ·cases h
theorem run_append_fits' {t1 t2 ty e:TypeId} {sz by_:Nat} {zs:List Value} {i:TypeInfo} {z:Value} (hT:qeF P t1 t2 e sz by_ zs i z)
  {base:Option Addr} {sLen sCap n:Nat} {x:Value} {news:List Value} {w w':World} (hl:(Builtin.lenOf x).run P w= .ok n w)
  (hg:(Builtin.firstCells sz n x).run P w= .ok ⟨news⟩ w) (hfit:sLen+n≤sCap)
  (hst:match base with | some a=>(storeCells (a.add (sLen * sz)) news).run P w= .ok () w' | none=>w'=w):
  (Builtin.append_ #[t1,t2] ty #[.slice base sLen sCap,x]).run P w= .ok (.slice base (sLen+n) sCap) w':=by
 have hs: ∀w,(sizeOf e).run P w= .ok sz w:=qaC (show tsz P e=some sz by simp [tsz,hT.inf,hT.size])
 rcases hT.u2 with ⟨e2,hu2⟩ | hu2
 all_goals
  unfold Builtin.append_
  simp only [List.getElem?_toArray,List.getElem?_cons_zero,List.getElem?_cons_succ,Sem.run_bind,run_underlying hT.u1,Result.andThen_ok,run_underlying hu2,Sem.run_pure,hs,
   Bool.false_eq_true,if_false,hl,hfit,if_true,Bool.not_false,hg]
  cases base with
  | none=>simp only at hst;subst hst;rfl
  | some a=>simp only at hst;simp only [Sem.run_bind,hst,Result.andThen_ok,Sem.run_pure]
theorem qdx {t1 t2 ty e:TypeId} {sz by_:Nat} {zs:List Value} {i:TypeInfo} {z:Value} (hT:qeF P t1 t2 e sz by_ zs i z)
  {base:Option Addr} {sLen sCap n:Nat} {x:Value} {olds news:List Value} {w:World} (hl:(Builtin.lenOf x).run P w= .ok n w)
  (ho:(Builtin.firstCells sz sLen (.slice base sLen sCap)).run P w.drew= .ok ⟨olds⟩ w.drew)
  (hg:(Builtin.firstCells sz n x).run P w.drew= .ok ⟨news⟩ w.drew) (hgr:sCap < sLen+n) (h63:sLen+n≤maxLen) (hby:(sLen+n) * by_≤140737488355328):
  (Builtin.append_ #[t1,t2] ty #[.slice base sLen sCap,x]).run P w=
   .ok (.slice (some ⟨w.heap.size,0,none⟩) (sLen+n) (grownCap w (sLen+n) sCap e))
    (w.drew.alloc (.cells (⟨olds⟩++⟨news⟩++Builtin.zeroCells z.cells (grownCap w (sLen+n) sCap e - (sLen+n))) e)):=by
 have hs: ∀w,(sizeOf e).run P w= .ok sz w:=qaC (show tsz P e=some sz by simp [tsz,hT.inf,hT.size])
 have hn: ¬(sLen+n≤sCap):=by omega
 have hfit:=growslice_fits hgr hby
 have h48: ¬(Builtin.nextslicecap (sLen+n) sCap * by_ > 2 ^ 48):=by simp only [Nat.reducePow];omega
 have h63': ¬(((sLen+n:Nat):Int) > IntKind.i64.max∧(False∨by_=0)):=by
  have:IntKind.i64.max=9223372036854775807:=by decide
  rw [this];unfold maxLen at h63;omega
 have hti: ∀w,(typeInfo e).run P w= .ok i w:=fun w=>by simp [typeInfo,hT.inf]
 have hze: ∀w,(zeroValue e).run P w= .ok z w:=fun w=>by simp [zeroValue,typeInfo,hT.inf,hT.zero]
 have hch: ∀w,(choose (.appendCap (sLen+n) sCap e)).run P w= .ok (grownCap w (sLen+n) sCap e) w.drew:=fun w=>by simp [Question.forced,grownCap]
 rcases hT.u2 with ⟨e2,hu2⟩ | hu2
 all_goals
  unfold Builtin.append_
  simp only [List.getElem?_toArray,List.getElem?_cons_zero,List.getElem?_cons_succ,Sem.run_bind,run_underlying hT.u1,Result.andThen_ok,run_underlying hu2,Sem.run_pure,hs,
   Bool.false_eq_true,if_false,hl,hn,Bool.not_false,if_true,hti,hT.bytes,h63',h48,hch,run_askRoom,ho,hg,hze,newRow,run_newObj,World.alloc_eq,World.size_drew]
end Go.Idl
