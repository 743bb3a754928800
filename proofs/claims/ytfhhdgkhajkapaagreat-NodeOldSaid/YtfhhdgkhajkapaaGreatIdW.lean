/- Facts that the proofs of this claim lean on. -/
import Derived.Test.YtfhhdgkhajkapaaGreatIdP
set_option linter.unusedSimpArgs false
set_option linter.unusedVariables false
/-
 A walk by rewriting: 'vc' goes on as far as it can, and leaves what it cannot do.
-/
namespace Go.Idl
variable {P:Program} {h0:IH}
def qaq {α:Type} (x:Option α) (f:α→Prop) (d:Prop):Prop:=
 match x with
 | some a=>f a
 | none=>d
theorem qaj {α:Type} (a:α) (f:α→Prop) (d:Prop):qaq (some a) f d=f a:=rfl
theorem qcx {α:Type} (f:α→Prop) (d:Prop):qaq (none:Option α) f d=d:=rfl
def qbt (b:Bool) (x y:Prop):Prop:=if b then x else y
def qlA (x:Option IV) (f:Bool→Prop) (d:Prop):Prop:=
 match x with
 | some (.p (.sc (.bool t)))=>f t
 | _=>d
def putS (dst:Option Tmp) (x:IV) (s:List (Nat × IV)):List (Nat × IV):=
 match dst with
 | some d=>(d,x)::s
 | none=>s
def dOk (n:Nat):Option Tmp→Bool
 | some d=>decide (d < n)
 | none=>true
def qbP (id:Nat):List It→Option (List It)
 | []=>none
 | .blk i::k=>if id=i then some k else qbP id k
 | .code _::k=>qbP id k
 | .ops _ _::k=>qbP id k
theorem after_exit {id:Nat} {Q:Exit→qaa→Prop} {S:qaa}: ∀ {k k':List It},qbP id k=some k'→IRun P h0 k' S Q→after P h0 Q k (.exit id) S
 | [],k',h,_=>by cases h
 | .blk _::k,k',h,hr=>by
   simp only [qbP] at h
   simp only [after]
   split
   ·rename_i e;rw [if_pos e] at h;cases h;exact hr
   ·rename_i e;rw [if_neg e] at h;exact after_exit h hr
 | .code c::k,k',h,hr=>after_exit (k:=k) h hr
 | .ops a l::k,k',h,hr=>after_exit (k:=k) h hr
theorem after_exit_none {id:Nat} {Q:Exit→qaa→Prop} {S:qaa}: ∀ {k:List It},qbP id k=none→Q (.exit id) S→after P h0 Q k (.exit id) S
 | [],_,hr=>hr
 | .blk i::k,h,hr=>by
   simp only [qbP] at h
   simp only [after]
   split
   ·rename_i e;rw [if_pos e] at h;cases h
   ·rename_i e;rw [if_neg e] at h;exact after_exit_none h hr
 | .code c::k,h,hr=>after_exit_none (k:=k) h hr
 | .ops a l::k,h,hr=>after_exit_none (k:=k) h hr
def vc (P:Program) (h0:IH) (Q:Exit→qaa→Prop):Nat→List It→qaa→Prop
 | 0,k,S=>IRun P h0 k S Q
 | _+1, [],S=>Q .normal S
 | n+1, .blk _::k,S=>vc P h0 Q n k S
 | n+1, .code .skip::k,S=>vc P h0 Q n k S
 | n+1, .code (.label _)::k,S=>vc P h0 Q n k S
 | n+1, .code (.seq x y)::k,S=>vc P h0 Q n (.code x:: .code y::k) S
 | n+1, .code (.block id c)::k,S=>vc P h0 Q n (.code c:: .blk id::k) S
 | n+1, .code (.exit id)::k,S=>qaq (qbP id k) (fun k'=>vc P h0 Q n k' S) (Q (.exit id) S)
 | _+1, .code .ret::_,S=>Q .ret S
 | n+1, .code (.cond c x y)::k,S=>qlA (ev S.s c) (fun t=>qbt t (vc P h0 Q n (.code x::k) S) (vc P h0 Q n (.code y::k) S)) (IRun P h0 (.code (.cond c x y)::k) S Q)
 | n+1, .code (.region _ ops false)::k,S=>vc P h0 Q n (.ops ops ops.toList::k) S
 | _+1, .code c::k,S=>IRun P h0 (.code c::k) S Q
 | n+1, .ops _ []::k,S=>vc P h0 Q n k S
 | n+1, .ops all (⟨dst,op,ty,pos,aft,none⟩::r)::k,S=>
   qaq (fop P (ev S.s) (look (S.l++h0.m)) S.nx all dst op)
    (fun fr=>if dOk S.n dst then vc P h0 Q n (.ops all r::k) ⟨S.n,putS dst fr.x S.s,S.d,S.nx+fr.F.length,fr.W.reverse++S.l⟩ else False)
    (IRun P h0 (.ops all (⟨dst,op,ty,pos,aft,none⟩::r)::k) S Q)
 | n+1, .ops all (⟨dst,op,ty,pos,aft,some g⟩::r)::k,S=>
   qaq (qai all S.s ⟨dst,op,ty,pos,aft,some g⟩)
    (fun b=>qbt b
     (qaq (fop P (ev S.s) (look (S.l++h0.m)) S.nx all dst op)
      (fun fr=>if dOk S.n dst then vc P h0 Q n (.ops all r::k) ⟨S.n,putS dst fr.x S.s,S.d,S.nx+fr.F.length,fr.W.reverse++S.l⟩ else False)
      (IRun P h0 (.ops all (⟨dst,op,ty,pos,aft,some g⟩::r)::k) S Q))
     (if dOk S.n dst then vc P h0 Q n (.ops all r::k) ⟨S.n,putS dst (.tup []) S.s,S.d,S.nx,S.l⟩ else False))
    (IRun P h0 (.ops all (⟨dst,op,ty,pos,aft,some g⟩::r)::k) S Q)
theorem qaT (S:qaa) (dst:Option Tmp) (x:IV) (nx:Nat) (W:List (Nat × IBlk)):S.put dst x nx W=⟨S.n,putS dst x S.s,S.d,nx,W++S.l⟩:=by
 cases dst<;>rfl
theorem vc_op {all:Array Oper} {o:Oper} {r:List Oper} {k:List It} {S:qaa} {Q:Exit→qaa→Prop} {n:Nat} (hw:qai all S.s o=some true)
  (ih: ∀k S,vc P h0 Q n k S→IRun P h0 k S Q)
  (h:qaq (fop P (ev S.s) (look (S.l++h0.m)) S.nx all o.dst o.op)
   (fun fr=>if dOk S.n o.dst then vc P h0 Q n (.ops all r::k) ⟨S.n,putS o.dst fr.x S.s,S.d,S.nx+fr.F.length,fr.W.reverse++S.l⟩ else False)
   (IRun P h0 (.ops all (o::r)::k) S Q)):IRun P h0 (.ops all (o::r)::k) S Q:=by
 cases hf:fop P (ev S.s) (look (S.l++h0.m)) S.nx all o.dst o.op with
 | none=>rw [hf] at h;exact h
 | some fr=>
   rw [hf,qaj] at h
   split at h
   ·rename_i hd
    have hd':qaE S o.dst=true:=by cases hq:o.dst<;>simp_all [dOk,qaE]
    have:=ih _ _ h
    exact iops_op hw hf hd' (by rw [qaT];exact this)
   ·exact h.elim
theorem vc_sound (Q:Exit→qaa→Prop): ∀(n:Nat) (k:List It) (S:qaa),vc P h0 Q n k S→IRun P h0 k S Q:=by
 intro n
 induction n with
 | zero=>intro k S h;cases k<;>exact h
 | succ n ih=>
   intro k S h
   cases k with
   | nil=>exact h
   | cons x k=>
     cases x with
     | blk id=>exact qgZ (ih _ _ h)
     | code c=>
       cases c with
       | skip=>exact qjs (ih _ _ h)
       | label l=>exact qhW (ih _ _ h)
       | seq x y=>exact qll (ih _ _ h)
       | block id c=>exact qhV (ih _ _ h)
       | exit id=>
         simp only [vc] at h
         cases hb:qbP id k with
         | none=>rw [hb,qcx] at h;exact qfK (after_exit_none hb h)
         | some k'=>rw [hb,qaj] at h;exact qfK (after_exit hb (ih _ _ h))
       | ret=>exact irun_ret (after_ret h)
       | cond c x y=>
         simp only [vc,qlA] at h
         split at h
         ·rename_i t hc
          refine irun_cond hc (fun e=>?_) (fun e=>?_)
          ·subst e;exact ih _ _ h
          ·subst e;exact ih _ _ h
         ·exact h
       | region id ops d=>
         cases d with
         | false=>exact qgF (ih _ _ h)
         | true=>exact h
       | loop c=>exact h
       | rangeFunc f p a b=>exact h
       | scope c=>exact h
       | goto l=>exact h
       | refuse w=>exact h
     | ops all l=>
       cases l with
       | nil=>exact qfL (ih _ _ h)
       | cons o r=>
         obtain⟨dst,op,ty,pos,aft,g⟩:=o
         cases g with
         | none=>exact vc_op rfl ih h
         | some g=>
           simp only [vc] at h
           cases hw:qai all S.s ⟨dst,op,ty,pos,aft,some g⟩ with
           | none=>rw [hw,qcx] at h;exact h
           | some b=>
             rw [hw,qaj] at h
             cases b with
             | true=>exact vc_op hw ih h
             | false=>
               simp only [qbt,Bool.false_eq_true,if_false] at h
               split at h
               ·rename_i hd
                have hd':qaE S dst=true:=by cases dst<;>simp_all [dOk,qaE]
                exact iops_skip hw hd' (by rw [qaT];exact ih _ _ h)
               ·exact h.elim
end Go.Idl
/-
 The rewriting rules of the walk.
-/
namespace Go.Idl
section
variable {P:Program} {h0:IH} {Q:Exit→qaa→Prop} {n:Nat} {k:List It} {S:qaa}
@[go_sem ↓] theorem vc_nil:vc P h0 Q (n+1) [] S=Q .normal S:=(rfl)
@[go_sem ↓] theorem vc_blk {id:Nat}:vc P h0 Q (n+1) (.blk id::k) S=vc P h0 Q n k S:=(rfl)
@[go_sem ↓] theorem vc_skip:vc P h0 Q (n+1) (.code .skip::k) S=vc P h0 Q n k S:=(rfl)
@[go_sem ↓] theorem vc_seq {x y:Code}:vc P h0 Q (n+1) (.code (.seq x y)::k) S=vc P h0 Q n (.code x:: .code y::k) S:=(rfl)
@[go_sem ↓] theorem vc_block {id:Nat} {c:Code}:vc P h0 Q (n+1) (.code (.block id c)::k) S=vc P h0 Q n (.code c:: .blk id::k) S:=(rfl)
def qcI (P:Program) (h0:IH) (Q:Exit→qaa→Prop) (n id:Nat) (S:qaa) (x:Option (List It)):Prop:=qaq x (fun k'=>vc P h0 Q n k' S) (Q (.exit id) S)
@[go_sem ↓] theorem vc_exit {id:Nat}:vc P h0 Q (n+1) (.code (.exit id)::k) S=qcI P h0 Q n id S (qbP id k):=(rfl)
@[go_sem ↓] theorem qsk {id:Nat} {k':List It}:qcI P h0 Q n id S (some k')=vc P h0 Q n k' S:=(rfl)
@[go_sem ↓] theorem qsj {id:Nat}:qcI P h0 Q n id S none=Q (.exit id) S:=(rfl)
@[go_sem ↓] theorem vc_ret:vc P h0 Q (n+1) (.code .ret::k) S=Q .ret S:=(rfl)
@[go_sem ↓] theorem vc_region {id:Nat} {l:List Oper}:vc P h0 Q (n+1) (.code (.region id l.toArray false)::k) S=vc P h0 Q n (.ops l.toArray l::k) S:=(rfl)
@[go_sem ↓] theorem vc_drawn {id:Nat} {ops:Array Oper}:vc P h0 Q (n+1) (.code (.region id ops true)::k) S=IRun P h0 (.code (.region id ops true)::k) S Q:=(rfl)
@[go_sem ↓] theorem vc_loop {c:Code}:vc P h0 Q (n+1) (.code (.loop c)::k) S=IRun P h0 (.code (.loop c)::k) S Q:=(rfl)
@[go_sem ↓] theorem qsH {all:Array Oper}:vc P h0 Q (n+1) (.ops all []::k) S=vc P h0 Q n k S:=(rfl)
def qcz (P:Program) (h0:IH) (Q:Exit→qaa→Prop) (n:Nat) (all:Array Oper) (o:Oper) (r:List Oper) (k:List It) (N:Nat) (s:List (Nat × IV)) (d:List IDef) (nx:Nat) (l:List (Nat × IBlk)) (x:Option FR):Prop:=
 qaq x (fun fr=>if dOk N o.dst then vc P h0 Q n (.ops all r::k) ⟨N,putS o.dst fr.x s,d,nx+fr.F.length,fr.W.reverse++l⟩ else False)
  (IRun P h0 (.ops all (o::r)::k) ⟨N,s,d,nx,l⟩ Q)
section
variable {all:Array Oper} {r:List Oper} {dst:Option Tmp} {op:Op} {ty:TypeId} {pos:String} {aft:Array Edge} {N:Nat} {s:List (Nat × IV)} {d:List IDef} {nx:Nat} {l:List (Nat × IBlk)}
@[go_sem ↓] theorem vc_ops:vc P h0 Q (n+1) (.ops all (⟨dst,op,ty,pos,aft,none⟩::r)::k) ⟨N,s,d,nx,l⟩=
  qcz P h0 Q n all ⟨dst,op,ty,pos,aft,none⟩ r k N s d nx l (fop P (ev s) (look (l++h0.m)) nx all dst op):=(rfl)
@[go_sem ↓] theorem qsG {g:Option (Nat × Bool)} {t:Tmp} {x:IV} {R W:List (Nat × IBlk)} {F:List Nat}:
  qcz P h0 Q n all ⟨some t,op,ty,pos,aft,g⟩ r k N s d nx l (some ⟨x,R,F,W⟩)=if t < N then vc P h0 Q n (.ops all r::k) ⟨N,(t,x)::s,d,nx+F.length,W.reverse++l⟩ else False:=by
  simp [qcz,qaq,dOk,putS]
@[go_sem ↓] theorem qsF {g:Option (Nat × Bool)} {x:IV} {R W:List (Nat × IBlk)} {F:List Nat}:
  qcz P h0 Q n all ⟨none,op,ty,pos,aft,g⟩ r k N s d nx l (some ⟨x,R,F,W⟩)=vc P h0 Q n (.ops all r::k) ⟨N,s,d,nx+F.length,W.reverse++l⟩:=by
  simp [qcz,qaq,dOk,putS]
@[go_sem ↓] theorem qsy {o:Oper}:qcz P h0 Q n all o r k N s d nx l none=IRun P h0 (.ops all (o::r)::k) ⟨N,s,d,nx,l⟩ Q:=(rfl)
theorem qlY {o:Oper} {x x':Option FR} (h:x=x'):qcz P h0 Q n all o r k N s d nx l x=qcz P h0 Q n all o r k N s d nx l x':=by rw [h]
def qcT (P:Program) (h0:IH) (Q:Exit→qaa→Prop) (n:Nat) (all:Array Oper) (o:Oper) (r:List Oper) (k:List It) (N:Nat) (s:List (Nat × IV)) (d:List IDef) (nx:Nat) (l:List (Nat × IBlk)) (x:Option Bool):Prop:=
 qaq x (fun b=>qbt b (qcz P h0 Q n all o r k N s d nx l (fop P (ev s) (look (l++h0.m)) nx all o.dst o.op))
  (if dOk N o.dst then vc P h0 Q n (.ops all r::k) ⟨N,putS o.dst (.tup []) s,d,nx,l⟩ else False)) (IRun P h0 (.ops all (o::r)::k) ⟨N,s,d,nx,l⟩ Q)
@[go_sem ↓] theorem qsp {g:Nat × Bool}:vc P h0 Q (n+1) (.ops all (⟨dst,op,ty,pos,aft,some g⟩::r)::k) ⟨N,s,d,nx,l⟩=
  qcT P h0 Q n all ⟨dst,op,ty,pos,aft,some g⟩ r k N s d nx l (qai all s ⟨dst,op,ty,pos,aft,some g⟩):=(rfl)
@[go_sem ↓] theorem qr8 {o:Oper}:qcT P h0 Q n all o r k N s d nx l (some true)=qcz P h0 Q n all o r k N s d nx l (fop P (ev s) (look (l++h0.m)) nx all o.dst o.op):=(rfl)
@[go_sem ↓] theorem qrl {g:Option (Nat × Bool)} {t:Tmp}:qcT P h0 Q n all ⟨some t,op,ty,pos,aft,g⟩ r k N s d nx l (some false)=
  if t < N then vc P h0 Q n (.ops all r::k) ⟨N,(t, .tup [])::s,d,nx,l⟩ else False:=by
  simp [qcT,qaq,qbt,dOk,putS]
theorem qio {o:Oper} {x x':Option Bool} (h:x=x'):qcT P h0 Q n all o r k N s d nx l x=qcT P h0 Q n all o r k N s d nx l x':=by rw [h]
def qd2 (P:Program) (h0:IH) (Q:Exit→qaa→Prop) (n:Nat) (c:Operand) (x y:Code) (k:List It) (N:Nat) (s:List (Nat × IV)) (d:List IDef) (nx:Nat) (l:List (Nat × IBlk)) (z:Option IV):Prop:=
 qlA z (fun t=>qbt t (vc P h0 Q n (.code x::k) ⟨N,s,d,nx,l⟩) (vc P h0 Q n (.code y::k) ⟨N,s,d,nx,l⟩)) (IRun P h0 (.code (.cond c x y)::k) ⟨N,s,d,nx,l⟩ Q)
@[go_sem ↓] theorem vc_cond {c:Operand} {x y:Code}:vc P h0 Q (n+1) (.code (.cond c x y)::k) ⟨N,s,d,nx,l⟩=qd2 P h0 Q n c x y k N s d nx l (ev s c):=(rfl)
@[go_sem ↓] theorem qsi {c:Operand} {x y:Code}:qd2 P h0 Q n c x y k N s d nx l (some (.p (.sc (.bool true))))=vc P h0 Q n (.code x::k) ⟨N,s,d,nx,l⟩:=(rfl)
@[go_sem ↓] theorem qr7 {c:Operand} {x y:Code}:qd2 P h0 Q n c x y k N s d nx l (some (.p (.sc (.bool false))))=vc P h0 Q n (.code y::k) ⟨N,s,d,nx,l⟩:=(rfl)
theorem qi2 {c:Operand} {x y:Code} {z z':Option IV} (h:z=z'):qd2 P h0 Q n c x y k N s d nx l z=qd2 P h0 Q n c x y k N s d nx l z':=by rw [h]
end
theorem qnd {x y:Prop}:qbt true x y=x:=rfl
theorem qlz {x y:Prop}:qbt false x y=y:=rfl
theorem qoD {S S':qaa} (h:S=S'):IRun P h0 k S Q=IRun P h0 k S' Q:=by rw [h]
end
attribute [go_sem ↓] qnd qlz
attribute [congr] qlY qio qi2 qoD
attribute [congr] qpR
attribute [go_sem ↓] qq2 qq1
/- `look` and `ev` are not unfolded where they are only handed on -/
@[go_sem] theorem look_nil {α:Type} {i:Nat}:look ([]:List (Nat × α)) i=none:=(rfl)
@[go_sem] theorem look_cons {α:Type} {k i:Nat} {x:α} {r:List (Nat × α)}:look ((k,x)::r) i=if k=i then some x else look r i:=(rfl)
@[go_sem] theorem ev_tmp {s:List (Nat × IV)} {t:Tmp}:ev s (.tmp t)=look s t:=(rfl)
@[go_sem] theorem ev_const {s:List (Nat × IV)} {v:Value}:ev s (.const v)=cst v:=(rfl)
@[go_sem] theorem ev_func {s:List (Nat × IV)} {f:FuncId}:ev s (.func f)=some (.p (.sc (.func (.func f) #[] #[]))):=(rfl)
attribute [go_sem] qdW qgd qfA fext cst qbP qai qfO qkh fop sci scb
attribute [go_sem] qgc qew fiaddr qea idx ibin qke qlZ sbin fbin sun fun1 scv fconv fpart ffield findex fextract qco flen qdV sbd sbds qez ropt qbr scs fiface fnil imax imin fmax
attribute [go_sem] tlit qnA qka qka.go qbq fbox zcs qet fmake fstore iapp qhA fapp qgb iset qb0 qev rparts pvs chunk flit qcN qj9 qgg ires enum start bel bels qaj
end Go.Idl
/-
 What an operation does at any memory the ideal heap tells of; a call of a function that leaves nothing.
-/
namespace Go.Idl
variable {P:Program} {h0:IH}
def Loc (P:Program) (o:Oper) (ρ:Operand→Option IV) (R:List (Nat × IBlk)) (F:List Nat) (x:IV) (W:List (Nat × IBlk)):Prop:=
 ∀(nx:Nat) (m:List (Nat × IBlk)) (M:Mem) (a:Act),HRel nx m M→(∀p∈R,look m p.1=some p.2)→(∀b∈F,¬M.H.A b)→
  (∀y∈o.op.operands,∀z,ρ y=some z→VRel M z (a.eval y))→
  ∀(K:Act→World→Prop) (Q:Exit→Act→World→Prop),
   (∀v M',qae M M'→MRel M'→M'.H=M.H.upd W→VRel M' x v→K (a.put o.dst v) M'.w)→o.wp P a M.w K Q
theorem qbh.loc {o:Oper} {ρ:Operand→Option IV} {R W:List (Nat × IBlk)} {F:List Nat} {x:IV} (h:qbh P o ρ R F x W):Loc P o ρ R F x W:=
 fun _ _ M a hM hR hF hr K Q hK=>h M a hM.rel (fun p hp=>by rw [hM.G];exact hR p hp) hF hr K Q hK
mutual
def belA (A:Nat→Prop):IV→Prop
 | .p _=>True
 | .ref b _ _ _=>A b
 | .ptr b _ _ _=>A b
 | .mp b=>A b
 | .clo _ f c=>qd4 A f∧qd4 A c
 | .agg cs=>qd4 A cs
 | .tup cs=>qd4 A cs
 | .dead=>True
def qd4 (A:Nat→Prop):List IV→Prop
 | []=>True
 | x::r=>belA A x∧qd4 A r
end
theorem qdp {A:Nat→Prop}: ∀ {l:List IV} {i:Nat} {x:IV},qd4 A l→l[i]? =some x→belA A x
 | [],i,x,_,h=>by simp at h
 | y::l,0,x,hb,h=>by simp at h;subst h;exact hb.1
 | y::l,i+1,x,hb,h=>qdp hb.2 (by simpa using h)
theorem qdS {A:Nat→Prop}: ∀ {l:List IV},(∀(i:Nat) (x:IV),l[i]? =some x→belA A x)→qd4 A l
 | [],_=>trivial
 | y::l,h=>⟨h 0 y rfl,qdS fun i x hx=>h (i+1) x (by simpa using hx)⟩
theorem qpg {A:Nat→Prop} (x:IV):bel 0 x→belA A x:=by
 apply IV.rec (motive_1:=fun x=>bel 0 x→belA A x) (motive_2:=fun l=>bels 0 l→qd4 A l)
 ·intro x _;trivial
 ·intro b g off len h;exact absurd h (Nat.not_lt_zero _)
 ·intro b g r j h;exact absurd h (Nat.not_lt_zero _)
 ·intro b h;exact absurd h (Nat.not_lt_zero _)
 ·intro fn f c i1 i2 h;exact⟨i1 h.1,i2 h.2⟩
 ·intro cs ih h;exact ih h
 ·intro cs ih h;exact ih h
 ·intro _;trivial
 ·intro _;trivial
 ·intro x l i1 i2 h;exact⟨i1 h.1,i2 h.2⟩
theorem VRel.toBelA {M:Mem} {x:IV} {v:Value} (h:VRel M x v):belA M.H.A x:=by
 induction h with
 | p x v h=>trivial
 | ref b g off len v hA' hv h=>exact hA'
 | ptr b g r j v hA' hv h=>exact hA'
 | mp b v hA' hv h=>exact hA'
 | clo fn first cap vf vc hf hc rf rc i1 i2=>
   refine⟨qdS fun i x hx=>?_,qdS fun i x hx=>?_⟩
   ·have hlt:=qab hx
    rw [←hf] at hlt
    exact i1 i x _ hx (List.getElem?_eq_getElem hlt)
   ·have hlt:=qab hx
    rw [←hc] at hlt
    exact i2 i x _ hx (List.getElem?_eq_getElem hlt)
 | agg cs vs hl h1 r ih=>
   refine qdS fun i x hx=>?_
   have hlt:=qab hx
   rw [←hl] at hlt
   exact ih i x _ hx (List.getElem?_eq_getElem hlt)
 | tup cs vs hl r ih=>
   refine qdS fun i x hx=>?_
   have hlt:=qab hx
   rw [←hl] at hlt
   exact ih i x _ hx (List.getElem?_eq_getElem hlt)
 | dead v=>trivial
def Mem.useA (M:Mem) (A:Nat→Prop):Mem:=⟨M.w,⟨A,M.H.G,M.H.O⟩,M.β⟩
theorem VRel.useA {M:Mem} {A:Nat→Prop} {x:IV} {v:Value} (h:VRel M x v):belA A x→VRel (M.useA A) x v:=by
 induction h with
 | p x v h=>intro _;exact .p x v h
 | ref b g off len v hA' hv h=>intro hb;exact .ref b g off len v hb hv h
 | ptr b g r j v hA' hv h=>intro hb;exact .ptr b g r j v hb hv h
 | mp b v hA' hv h=>intro hb;exact .mp b v hb hv h
 | clo fn first cap vf vc hf hc rf rc i1 i2=>
   intro hb
   exact .clo fn first cap vf vc hf hc (fun i x v hx hv=>i1 i x v hx hv (qdp hb.1 hx)) (fun i x v hx hv=>i2 i x v hx hv (qdp hb.2 hx))
 | agg cs vs hl h1 r ih=>intro hb;exact .agg cs vs hl h1 fun i x v hx hv=>ih i x v hx hv (qdp hb hx)
 | tup cs vs hl r ih=>intro hb;exact .tup cs vs hl fun i x v hx hv=>ih i x v hx hv (qdp hb hx)
 | dead v=>intro _;exact .dead v
theorem mem_useA {M M':Mem} (hM:MRel M) (hM':MRel M') (s:qae M M') (hG:M'.H.G=M.H.G):qae M (M'.useA M.H.A)∧MRel (M'.useA M.H.A):=by
 refine⟨⟨s.os,s.tape,s.output,s.size,s.keep,fun b hb=>hb,fun b blk' hA hb=>s.comp b blk' hA hb,s.oeq,s.ofix⟩,⟨fun b blk hb=>hM.dom b blk (by rw [←hG];exact hb),fun b blk hb=>?_,hM'.inj,hM'.olt,hM'.odis⟩⟩
 have hb':M'.H.G b=some blk:=hb
 have hr:=hM'.blk b blk hb'
 have hb0:M.H.G b=some blk:=by rw [←hG];exact hb'
 have hr0:=hM.blk b blk hb0
 obtain⟨blk0,g0,_,_,_,g1⟩:=s.comp b blk (hM.dom b blk hb0) hb'
 rw [hb0] at g0;cases g0
 obtain⟨gβ,_⟩:=g1 rfl
 cases blk with
 | arr sz g rows=>
   refine⟨hr.1,hr.2.1,fun c o n hc=>?_⟩
   obtain⟨cs,ty,q1,q2,q3,q4,q5⟩:=hr.2.2 c o n hc
   refine⟨cs,ty,q1,q2,q3,q4,fun i row j x hi hj=>?_⟩
   obtain⟨v,v1,v2,v3⟩:=q5 i row j x hi hj
   obtain⟨cs0,ty0,_,_,_,_,p5⟩:=hr0.2.2 c o n (by rw [←gβ];exact hc)
   obtain⟨v0,_,_,w3⟩:=p5 i row j x hi hj
   exact⟨v,v1,v2,v3.useA w3.toBelA⟩
 | mp es=>
   obtain⟨c,o,n,hc,es',clock,q1,q2,q3⟩:=hr
   refine⟨c,o,n,hc,es',clock,q1,q2,fun i k x hi=>?_⟩
   obtain⟨e,e1,e2,e3⟩:=q3 i k x hi
   obtain⟨c0,o0,n0,_,es0,clock0,_,_,p3⟩:=hr0
   obtain⟨_,_,_,w3⟩:=p3 i k x hi
   exact⟨e,e1,e2,e3.useA w3.toBelA⟩
 | ob k vs=>
   obtain⟨c,o,n,hc,ob,us,q1,q2,q3,q4⟩:=hr
   refine⟨c,o,n,hc,ob,us,q1,q2,q3,fun i x v hi hv=>?_⟩
   obtain⟨_,_,_,_,_,us0,_,_,p3,p4⟩:=hr0
   have hlt:=qab hi
   rw [←p3] at hlt
   exact(q4 i x v hi hv).useA (p4 i x _ hi (List.getElem?_eq_getElem hlt)).toBelA
theorem qed {o:Oper} {ρ:Operand→Option IV} {f:Operand} {args:List Operand} {ts:Array TypeId} {n:FuncId} {zs:List IV} {M:Mem} {a:Act}
  (hr: ∀y∈o.op.operands,∀z,ρ y=some z→VRel M z (a.eval y))
  (ho:o.op= .call {callee:= .value f,args:=⟨args⟩,argTypes:=ts}) (hc:qas ρ f args=some (n,zs)) (hn:fnOk P n=true):
  ∃vs:List Value,(execOp a.eval o).run P M.w= .ok (.enter n ⟨vs⟩) M.w∧vs.length=zs.length∧ ∀(i:Nat) (x:IV) (v:Value),zs[i]? =some x→vs[i]? =some v→VRel M x v:=by
 have h1: ∀z,ρ f=some z→VRel M z (a.eval f):=fun z hz=>hr f (by simp [ho,Op.operands,Call.operands]) z hz
 have h2: ∀y∈args,∀z,ρ y=some z→VRel M z (a.eval y):=fun y hy z hz=>hr y (by simp [ho,Op.operands,Call.operands,hy]) z hz
 unfold qas at hc
 split at hc
 ·rename_i n' zs' hf ha
  simp only [Option.some.injEq,Prod.mk.injEq] at hc
  obtain⟨rfl,rfl⟩:=hc
  have e:=(h1 _ hf).sc_inv
  obtain⟨l1,l2⟩:=qbo (M:=M) (a:=a) ha h2
  refine⟨args.map a.eval,?_,l1,l2⟩
  simp only [execOp,ho,resolve,e,Deferred.ofValue,Sem.run_bind,Sem.run_pure,Result.andThen_ok,invoke]
  rw [qbW hn]
  simp
 ·rename_i n' first cap zs' hf ha
  simp only [Option.some.injEq,Prod.mk.injEq] at hc
  obtain⟨rfl,rfl⟩:=hc
  have hv:=h1 _ hf
  obtain⟨l1,l2⟩:=qbo (M:=M) (a:=a) ha h2
  generalize hq:a.eval f=q at hv
  cases hv with
  | clo fn first cap vf vc lf lc rf rc=>
    refine⟨vf++args.map a.eval++vc,?_,by simp only [List.length_append,lf,lc,l1],qbG (by simp only [List.length_append,lf,l1]) (qbG lf rf l2) rc⟩
    simp only [execOp,ho,resolve,hq,Deferred.ofValue,Sem.run_bind,Sem.run_pure,Result.andThen_ok,invoke]
    rw [qbW hn]
    simp
 ·cases hc
def PCall (P:Program) (f:FuncId) (args:List IV) (R:List (Nat × IBlk)) (x:IV):Prop:=
 ∀h:IH,(∀p∈R,look h.m p.1=some p.2)→qa5 P f args h fun r nx l=>r= .ret x∧nx=h.nx∧l= []
theorem PCall.loc {o:Oper} {ρ:Operand→Option IV} {f:Operand} {args:List Operand} {ts:Array TypeId} {n:FuncId} {zs:List IV} {R:List (Nat × IBlk)} {x:IV}
  (ho:o.op= .call {callee:= .value f,args:=⟨args⟩,argTypes:=ts}) (hc:qas ρ f args=some (n,zs)) (hn:fnOk P n=true) (hx:bel 0 x)
  (hp:PCall P n zs R x):Loc P o ρ R [] x []:=by
 intro nx m M a hM hR _ hr K Q hK
 obtain⟨vs,hrun,hl,hv⟩:=qed hr ho hc hn
 unfold Oper.wp
 rw [hrun]
 refine Calls.mono (hp ⟨nx,m⟩ hR M vs hM hl hv) fun e w' ⟨M',nx',l',re,e1,st,hh,he,h1,h2,h3⟩=>?_
 subst h1 h2 h3
 obtain⟨v,rfl,hv⟩:=he
 subst e1
 have hG:M'.H.G=M.H.G:=by funext b;rw [hh.G,hM.G];rfl
 obtain⟨g1,g2⟩:=mem_useA hM.rel hh.rel st hG
 refine hK v (M'.useA M.H.A) g1 g2 ?_ (hv.useA (qpg x hx))
 simp only [Mem.useA,AH.upd,List.foldl_nil,hG,st.oeq]
theorem qoA {all:Array Oper} {dst:Option Tmp} {ty:TypeId} {pos:String} {aft:Array Edge} {g:Option (Nat × Bool)} {r:List Oper} {S:qaa} {Q:Exit→qaa→Prop} {f:Operand} {args:List Operand} {ts:Array TypeId} {n:FuncId} {zs:List IV} {x:IV} {R:List (Nat × IBlk)}
  (hw:qai all S.s ⟨dst, .call {callee:= .value f,args:=⟨args⟩,argTypes:=ts},ty,pos,aft,g⟩=some true) (hc:qas (ev S.s) f args=some (n,zs)) (hn:fnOk P n=true) (hd:dOk S.n dst=true)
  (hR: ∀p∈R,look (S.l++h0.m) p.1=some p.2) (hp:PCall P n zs R x)
  (h:IOps P h0 all r ⟨S.n,putS dst x S.s,S.d,S.nx,S.l⟩ Q):IOps P h0 all (⟨dst, .call {callee:= .value f,args:=⟨args⟩,argTypes:=ts},ty,pos,aft,g⟩::r) S Q:=by
 refine iops_call rfl hw hc hn (by cases dst<;>simp_all [dOk,qaE]) ((hp ⟨S.nx,S.l++h0.m⟩ hR).mono ?_)
 rintro e nx' l' ⟨rfl,rfl,rfl⟩
 simp only [qaT,List.nil_append]
 exact h
end Go.Idl
/-
 Regions that draw their order: what comes of it is what comes in the text's order.
-/
namespace Go.Idl
variable {P:Program} {h0:IH}
/-! ### which operation stands ahead of which -/
inductive Prec (ops:Array Oper):Nat→Nat→Prop where
 | edge {i:Nat} {o:Oper} {e:Edge} (ho:ops[i]? =some o) (he:e∈o.after.toList) (hb:Region.binds .any e=true):Prec ops e.on i
 | trans {i j k:Nat} (h:Prec ops k j) (h':Prec ops j i):Prec ops k i
def qgm (t:List Nat):List Edge→Nat
 | []=>0
 | e::r=>if Region.binds .any e then 2 ^ e.on ||| ((t[e.on]?).getD 0 ||| qgm t r) else qgm t r
def qaV:List Oper→List Nat→List Nat
 | [],t=>t
 | o::r,t=>qaV r (t++ [qgm t o.after.toList])
theorem qoH {ops:Array Oper} {t:List Nat} (ht: ∀(i m j:Nat),t[i]? =some m→m.testBit j=true→Prec ops j i) {i:Nat} {o:Oper} (ho:ops[i]? =some o):
  ∀(es:List Edge),(∀e∈es,e∈o.after.toList)→ ∀j,(qgm t es).testBit j=true→Prec ops j i:=by
 intro es
 induction es with
 | nil=>intro _ j hj;simp [qgm] at hj
 | cons e es ih=>
   intro hes j hj
   have h1:=ih fun e' he'=>hes e' (List.mem_cons_of_mem _ he')
   simp only [qgm] at hj
   split at hj
   ·rename_i hb
    have hed:Prec ops e.on i:= .edge ho (hes e List.mem_cons_self) hb
    simp only [Nat.testBit_or,Bool.or_eq_true,Nat.testBit_two_pow,decide_eq_true_eq] at hj
    rcases hj with rfl | hj | hj
    ·exact hed
    ·cases hm:t[e.on]? with
     | none=>simp [hm] at hj
     | some m=>rw [hm] at hj;exact .trans (ht _ _ _ hm hj) hed
    ·exact h1 j hj
   ·exact h1 j hj
theorem qoI {ops:Array Oper}: ∀(l:List Oper) (t:List Nat),(∀(i:Nat) (o:Oper),l[i]? =some o→ops[t.length+i]? =some o)→
  (∀(i m j:Nat),t[i]? =some m→m.testBit j=true→Prec ops j i)→ ∀(i m j:Nat),(qaV l t)[i]? =some m→m.testBit j=true→Prec ops j i:=by
 intro l
 induction l with
 | nil=>intro t _ ht;exact ht
 | cons o l ih=>
   intro t hl ht
   simp only [qaV]
   refine ih _ (fun i o' ho'=>?_) (fun i m j hi hj=>?_)
   ·have:=hl (i+1) o' (by simpa using ho')
    simp only [List.length_append,List.length_cons,List.length_nil]
    rw [←this];congr 1;omega
   ·rw [List.getElem?_append] at hi
    split at hi
    ·exact ht i m j hi hj
    ·rename_i hge
     have he:i=t.length:=by
      have:=qab hi
      simp at this;omega
     subst he
     simp only [Nat.sub_self,List.getElem?_cons_zero,Option.some.injEq] at hi
     subst hi
     exact qoH ht (by simpa using hl 0 o rfl) _ (fun _ h=>h) j hj
theorem qfR: ∀(l:List Oper) (t:List Nat),(qaV l t).length=t.length+l.length
 | [],t=>rfl
 | o::l,t=>by simp only [qaV,qfR l,List.length_append,List.length_cons,List.length_nil];omega
def qkb:Nat→List Oper→Bool
 | _, []=>true
 | k,o::r=>o.after.toList.all (fun e=>!Region.binds .any e || decide (e.on < k)) && qkb (k+1) r
theorem qh2: ∀ {l:List Oper} {k:Nat},qkb k l=true→ ∀(i:Nat) (o:Oper),l[i]? =some o→ ∀e∈o.after.toList,Region.binds .any e=true→e.on < k+i
 | [],k,_,i,o,ho=>by simp at ho
 | x::l,k,h,i,o,ho=>by
   simp only [qkb,Bool.and_eq_true,List.all_eq_true,Bool.or_eq_true,Bool.not_eq_true',decide_eq_true_eq] at h
   intro e he hb
   cases i with
   | zero=>
     simp at ho;subst ho
     rcases h.1 e he with h' | h'
     ·rw [hb] at h';cases h'
     ·exact h'
   | succ i=>have:=qh2 h.2 i o (by simpa using ho) e he hb;omega
def qh9 (ops:Array Oper) (i:Nat) (x:Oper):List (Oper × Nat)→Bool
 | []=>true
 | (y,m)::r=>(match x.dst with | some d=>y.dst != some d | none=>true) && (m.testBit i || x.apart ops y) && qh9 ops i x r
def qgr (ops:Array Oper):Nat→List (Oper × Nat)→Bool
 | _, []=>true
 | i,(x,_)::r=>qh9 ops i x r && qgr ops (i+1) r
theorem qgI {ops:Array Oper} {i:Nat} {x:Oper}: ∀ {l:List (Oper × Nat)},qh9 ops i x l=true→ ∀(j:Nat) (y:Oper) (m:Nat),l[j]? =some (y,m)→
  (∀d,x.dst=some d→y.dst≠some d)∧(m.testBit i=true∨x.apart ops y=true)
 | [],_,j,y,m,h=>by simp at h
 | (z,k)::l,hp,j,y,m,h=>by
   simp only [qh9,Bool.and_eq_true,Bool.or_eq_true] at hp
   cases j with
   | zero=>
     simp at h;obtain⟨rfl,rfl⟩:=h
     refine⟨fun d hd=>?_,hp.1.2⟩
     have:=hp.1.1
     rw [hd] at this
     simpa using this
   | succ j=>exact qgI hp.2 j y m (by simpa using h)
theorem qfY {ops:Array Oper}: ∀ {l:List (Oper × Nat)} {k:Nat},qgr ops k l=true→ ∀(i j:Nat) (x y:Oper) (mx m:Nat),i < j→l[i]? =some (x,mx)→l[j]? =some (y,m)→
  (∀d,x.dst=some d→y.dst≠some d)∧(m.testBit (k+i)=true∨x.apart ops y=true)
 | [],k,_,i,j,x,y,mx,m,_,h,_=>by simp at h
 | (z,mz)::l,k,hp,i,j,x,y,mx,m,hij,hi,hj=>by
   simp only [qgr,Bool.and_eq_true] at hp
   obtain⟨j,rfl⟩: ∃j',j=j'+1:=⟨j - 1,by omega⟩
   cases i with
   | zero=>
     simp at hi;obtain⟨rfl,rfl⟩:=hi
     exact qgI hp.1 j y m (by simpa using hj)
   | succ i=>
     have:=qfY hp.2 i j x y mx m (by omega) (by simpa using hi) (by simpa using hj)
     rw [show k+(i+1)=k+1+i by omega]
     exact this
def qo0 (ms:List Nat) (j:Nat):List Nat:=
 (List.range ms.length).filter fun i=>i != j && !((ms[j]?).getD 0).testBit i && !((ms[i]?).getD 0).testBit j
def isW:Op→Bool
 | .alloc _ | .box _ _ | .makeSlice _ _ _ | .store _ _ _ | .buildSlice _ _ _=>true
 | .call {callee:= .builtin .append, .. }=>true
 | .call {callee:= .builtin .copy, .. }=>true
 | .call {callee:= .value _, .. }=>true
 | _=>false
def uGo (ms:List Nat):Nat→List Oper→List (Option (List Nat))
 | _, []=> []
 | j,o::r=>(if isW o.op then some (qo0 ms j) else none)::uGo ms (j+1) r
theorem ql2 {ms:List Nat}: ∀ {l:List Oper} {k j:Nat} {u:List Nat},(uGo ms k l)[j]? =some (some u)→u=qo0 ms (k+j)
 | [],k,j,u,h=>by simp [uGo] at h
 | o::l,k,j,u,h=>by
   cases j with
   | zero=>
     simp only [uGo,List.getElem?_cons_zero,Option.some.injEq] at h
     split at h
     ·simp at h;exact h.symm
     ·cases h
   | succ j=>
     simp only [uGo,List.getElem?_cons_succ] at h
     have:=ql2 h
     rw [this];congr 1;omega
theorem qiq {ms:List Nat}: ∀ {l:List Oper} {k:Nat},(uGo ms k l).length=l.length
 | [],_=>rfl
 | _::l,k=>by simp [uGo,qiq]
def stat (ops:List Oper) (u:List (Option (List Nat))):Bool:=
 qkb 0 ops && qgr ops.toArray 0 (ops.zip (qaV ops [])) && uGo (qaV ops []) 0 ops==u
def Free (ops:List Oper) (i j:Nat):Prop:=i≠j∧ ¬((qaV ops [])[j]?.getD 0).testBit i=true∧ ¬((qaV ops [])[i]?.getD 0).testBit j=true
structure Stat (ops:List Oper) (u:List (Option (List Nat))):Prop where
 prec: ∀(i j:Nat),((qaV ops [])[i]?.getD 0).testBit j=true→Prec ops.toArray j i
 low: ∀(i:Nat) (o:Oper),ops[i]? =some o→ ∀e∈o.after.toList,Region.binds .any e=true→e.on < i
 dst: ∀(i j:Nat) (x y:Oper),i≠j→ops[i]? =some x→ops[j]? =some y→ ∀d,x.dst=some d→y.dst≠some d
 looks: ∀(i j:Nat) (x y:Oper),Free ops i j→ops[i]? =some x→ops[j]? =some y→ ∀d,y.dst=some d→d ∉ x.looksAt ops.toArray
 un: ∀(j i:Nat) (l:List Nat),u[j]? =some (some l)→Free ops i j→i < ops.length→i∈l
 len:u.length=ops.length
theorem qjQ {ops:List Oper} {u:List (Option (List Nat))} (h:stat ops u=true):Stat ops u:=by
 simp only [stat,Bool.and_eq_true,beq_iff_eq] at h
 obtain⟨⟨h1,h2⟩,h3⟩:=h
 have hp: ∀(i m j:Nat),(qaV ops [])[i]? =some m→m.testBit j=true→Prec ops.toArray j i:=qoI ops [] (fun i o ho=>by simpa using ho) (by simp)
 have hlen:(qaV ops []).length=ops.length:=by simp [qfR]
 have hz: ∀(i:Nat) (x:Oper),ops[i]? =some x→ ∃m,(qaV ops [])[i]? =some m∧(ops.zip (qaV ops []))[i]? =some (x,m):=by
  intro i x hx
  have hlt:=qab hx
  refine⟨_,List.getElem?_eq_getElem (show i < (qaV ops []).length by omega),?_⟩
  simp only [List.getElem?_zip_eq_some]
  exact⟨hx,List.getElem?_eq_getElem _⟩
 have pr: ∀(i j:Nat) (x y:Oper),i < j→ops[i]? =some x→ops[j]? =some y→(∀d,x.dst=some d→y.dst≠some d)∧(((qaV ops [])[j]?.getD 0).testBit i=true∨x.apart ops.toArray y=true):=by
  intro i j x y hij hi hj
  obtain⟨mx,_,hx⟩:=hz i x hi
  obtain⟨my,hm,hy⟩:=hz j y hj
  have:=qfY h2 i j x y mx my hij hx hy
  rw [hm]
  simpa using this
 refine⟨fun i j hj=>?_,fun i o ho e he hb=>by simpa using qh2 h1 i o ho e he hb,fun i j x y hij hi hj d hd=>?_,fun i j x y hf hi hj d hd=>?_,fun j i l hl hf hlt=>?_,by rw [←h3,qiq]⟩
 ·cases hm:(qaV ops [])[i]? with
  | none=>simp [hm] at hj
  | some m=>rw [hm] at hj;exact hp i m j hm hj
 ·rcases Nat.lt_or_gt_of_ne hij with h | h
  ·exact(pr i j x y h hi hj).1 d hd
  ·intro hd'
   exact(pr j i y x h hj hi).1 d hd' hd
 ·obtain⟨hne,f1,f2⟩:=hf
  rcases Nat.lt_or_gt_of_ne hne with h | h
  ·have:=((pr i j x y h hi hj).2.resolve_left f1)
   exact(Oper.apart_spec this).2.2 d hd
  ·have:=((pr j i y x h hj hi).2.resolve_left f2)
   exact(Oper.apart_spec this).1 d hd
 ·rw [←h3] at hl
  have:=ql2 hl
  subst this
  obtain⟨hne,f1,f2⟩:=hf
  simp only [qo0,List.mem_filter,List.mem_range,hlen,Nat.zero_add,Bool.and_eq_true,bne_iff_ne,ne_eq,Bool.not_eq_true']
  exact⟨hlt,⟨hne,by simpa using f1⟩,by simpa using f2⟩
end Go.Idl
/-
 Regions that draw their order: the run in the text's order, and what it stands for.
-/
namespace Go.Idl
variable {P:Program} {h0:IH}
structure FR.fitsG (fr:FR) (G:Nat→Option IBlk) (nx:Nat):Prop where
 reads: ∀p∈fr.R,G p.1=some p.2
 rng: ∀b∈fr.F,nx≤b∧b < nx+fr.F.length
 new: ∀p∈fr.W,p.1∈fr.F∨ ∃blk,(p.1,blk)∈fr.R
theorem FR.fits.G {fr:FR} {G:Nat→Option IBlk} {nx:Nat} (h:fr.fits G nx):fr.fitsG G nx:=by
 refine⟨h.reads,?_,fun p hp=>?_⟩
 ·rcases h.new with ⟨h1,_⟩ | ⟨h1,_⟩<;>rw [h1]<;>simp
 ·rcases h.new with ⟨_,h2⟩ | ⟨h1,blk,h2⟩
  ·exact .inr (h2 p hp)
  ·rw [h2] at hp;simp at hp;subst hp;rw [h1];simp
inductive qaI (P:Program) (h0:IH) (all:Array Oper):List Oper→qaa→List FR→qaa→Prop where
 | nil (S:qaa):qaI P h0 all [] S [] S
 | op {o:Oper} {r:List Oper} {S S':qaa} {fr:FR} {frs:List FR} (hw:qai all S.s o=some true) (hl:Loc P o (ev S.s) fr.R fr.F fr.x fr.W)
   (hf:fr.fitsG (look (S.l++h0.m)) S.nx) (hd:dOk S.n o.dst=true)
   (h:qaI P h0 all r ⟨S.n,putS o.dst fr.x S.s,S.d,S.nx+fr.F.length,fr.W.reverse++S.l⟩ frs S'):qaI P h0 all (o::r) S (fr::frs) S'
 | skip {o:Oper} {r:List Oper} {S S':qaa} {frs:List FR} (hw:qai all S.s o=some false) (hd:dOk S.n o.dst=true)
   (h:qaI P h0 all r ⟨S.n,putS o.dst (.tup []) S.s,S.d,S.nx,S.l⟩ frs S'):qaI P h0 all (o::r) S ({x:= .tup []}::frs) S'
def selS:List Oper→List FR→(Nat→Bool)→List (Nat × IV)→List (Nat × IV)
 | o::r,f::fs,L,s=>selS r fs (fun k=>L (k+1)) (if L 0 then putS o.dst f.x s else s)
 | _,_,_,s=>s
def selL:List FR→(Nat→Bool)→List (Nat × IBlk)→List (Nat × IBlk)
 | f::fs,L,l=>selL fs (fun k=>L (k+1)) (if L 0 then f.W.reverse++l else l)
 | _,_,l=>l
theorem qfQ {dst:Option Tmp} {x:IV} {s:List (Nat × IV)} {t:Nat}:look (putS dst x s) t=if dst=some t then some x else look s t:=by
 cases dst with
 | none=>simp [putS]
 | some d=>simp [putS,look]
theorem selS_agree: ∀ {ops:List Oper} {frs:List FR} {L L':Nat→Bool} {s s':List (Nat × IV)} {t:Nat},look s t=look s' t→
  (∀(j:Nat) (o:Oper),ops[j]? =some o→L j≠L' j→o.dst≠some t)→look (selS ops frs L s) t=look (selS ops frs L' s') t
 | [],frs,L,L',s,s',t,h,_=>by simpa [selS] using h
 | o::ops, [],L,L',s,s',t,h,_=>by simpa [selS] using h
 | o::ops,f::frs,L,L',s,s',t,h,hd=>by
   simp only [selS]
   refine selS_agree ?_ fun j o' ho' hne=>hd (j+1) o' (by simpa using ho') hne
   by_cases e:L 0=L' 0
   ·rw [e]
    split
    ·simp only [qfQ,h]
    ·exact h
   ·have:=hd 0 o rfl e
    cases h1:L 0<;>cases h2:L' 0<;>simp_all [qfQ]
theorem qbJ: ∀ {frs:List FR} {L L':Nat→Bool} {l l':List (Nat × IBlk)} {b:Nat},look l b=look l' b→
  (∀(j:Nat) (f:FR),frs[j]? =some f→L j≠L' j→ ∀p∈f.W,p.1≠b)→look (selL frs L l) b=look (selL frs L' l') b
 | [],L,L',s,s',t,h,_=>by simpa [selL] using h
 | f::frs,L,L',s,s',t,h,hd=>by
   simp only [selL]
   refine qbJ ?_ fun j o' ho' hne=>hd (j+1) o' (by simpa using ho') hne
   have hnone:(∀p∈f.W,p.1≠t)→look f.W.reverse t=none:=by
    intro hp
    cases hl:look f.W.reverse t with
    | none=>rfl
    | some x=>exact absurd rfl (hp _ (by simpa using qaD hl))
   by_cases e:L 0=L' 0
   ·rw [e]
    split
    ·simp only [qad,h]
    ·exact h
   ·have:=hnone (hd 0 f rfl e)
    cases h1:L 0<;>cases h2:L' 0<;>simp_all [qad]
theorem qbL: ∀ {ops:List Oper} {frs:List FR} {s:List (Nat × IV)},selS ops frs (fun _=>false) s=s
 | [],_,_=>by simp [selS]
 | o::ops, [],_=>by simp [selS]
 | o::ops,f::frs,s=>by simp only [selS];exact qbL
theorem qbK: ∀ {frs:List FR} {l:List (Nat × IBlk)},selL frs (fun _=>false) l=l
 | [],_=>by simp [selL]
 | f::frs,s=>by simp only [selL];exact qbK
theorem qi1: ∀ {ops:List Oper} {frs:List FR} {L:Nat→Bool} {s:List (Nat × IV)} {t i:Nat} {o:Oper} {f:FR},L i=true→ops[i]? =some o→frs[i]? =some f→o.dst=some t→
  (∀(j:Nat) (o':Oper),ops[j]? =some o'→j≠i→o'.dst≠some t)→look (selS ops frs L s) t=some f.x
 | [],frs,L,s,t,i,o,f,_,ho,_,_,_=>by simp at ho
 | x::ops, [],L,s,t,i,o,f,_,_,hf,_,_=>by simp at hf
 | x::ops,g::frs,L,s,t,i,o,f,hL,ho,hf,hd,hn=>by
   simp only [selS]
   cases i with
   | zero=>
     simp at ho hf;subst ho;subst hf
     rw [selS_agree (L':=fun _=>false) (s':=putS x.dst g.x s) (by rw [if_pos hL]) (fun j o' ho' _=>hn (j+1) o' (by simpa using ho') (by omega)),qbL,qfQ,if_pos hd]
   | succ i=>exact qi1 (L:=fun k=>L (k+1)) hL (by simpa using ho) (by simpa using hf) hd fun j o' ho' hne=>hn (j+1) o' (by simpa using ho') (by omega)
theorem qi0: ∀ {frs:List FR} {L:Nat→Bool} {l:List (Nat × IBlk)} {b i:Nat} {f:FR} {blk:IBlk},L i=true→frs[i]? =some f→look f.W.reverse b=some blk→
  (∀(j:Nat) (f':FR),frs[j]? =some f'→i < j→L j=true→ ∀p∈f'.W,p.1≠b)→look (selL frs L l) b=some blk
 | [],L,l,b,i,f,blk,_,hf,_,_=>by simp at hf
 | g::frs,L,l,b,i,f,blk,hL,hf,hb,hn=>by
   simp only [selL]
   cases i with
   | zero=>
     simp at hf;subst hf
     rw [qbJ (L':=fun _=>false) (l':=g.W.reverse++l) (by rw [if_pos hL]) (fun j f' hf' hne=>hn (j+1) f' (by simpa using hf') (by omega) (by simpa using hne)),qbK,qad,hb]
   | succ i=>exact qi0 (L:=fun k=>L (k+1)) hL (by simpa using hf) hb fun j f' hf' hlt=>hn (j+1) f' (by simpa using hf') (by omega)
/-! ### the run, operation by operation -/
structure qkV (P:Program) (h0:IH) (all:Array Oper) (S S':qaa) (o:Oper) (fr:FR) (s:List (Nat × IV)) (l:List (Nat × IBlk)):Prop where
 dst:dOk S.n o.dst=true
 does:(qai all s o=some true∧Loc P o (ev s) fr.R fr.F fr.x fr.W)∨(qai all s o=some false∧fr= {x:= .tup []})
 reads: ∀p∈fr.R,look (l++h0.m) p.1=some p.2
 new: ∀p∈fr.W,p.1∈fr.F∨ ∃blk,(p.1,blk)∈fr.R
 range: ∀b∈fr.F,S.nx≤b∧b < S'.nx
theorem qaI.nx {all:Array Oper} {ops:List Oper} {S S':qaa} {frs:List FR} (h:qaI P h0 all ops S frs S'):S.nx≤S'.nx:=by
 induction h with
 | nil S=>exact Nat.le_refl _
 | op hw hl hf hd h ih=>simp only at ih;omega
 | skip hw hd h ih=>exact ih
theorem qaI.length {all:Array Oper} {ops:List Oper} {S S':qaa} {frs:List FR} (h:qaI P h0 all ops S frs S'):frs.length=ops.length:=by
 induction h with
 | nil S=>rfl
 | op hw hl hf hd h ih=>simp [ih]
 | skip hw hd h ih=>simp [ih]
theorem qaI.fresh {all:Array Oper} {ops:List Oper} {S S':qaa} {frs:List FR} (h:qaI P h0 all ops S frs S'):
  (∀(i:Nat) (f:FR),frs[i]? =some f→ ∀b∈f.F,S.nx≤b∧b < S'.nx)∧ ∀(i j:Nat) (f g:FR),i < j→frs[i]? =some f→frs[j]? =some g→ ∀b∈f.F,∀b'∈g.F,b < b':=by
 induction h with
 | nil S=>simp
 | op hw hl hf hd h ih=>
   obtain⟨i1,i2⟩:=ih
   have hnx:=h.nx
   simp only at i1 hnx
   refine⟨fun i f hi b hb=>?_,fun i j f g hij hi hj b hb b' hb'=>?_⟩
   ·cases i with
    | zero=>simp at hi;subst hi;obtain⟨e,e1⟩:=hf.rng b hb;omega
    | succ i=>have:=i1 i f (by simpa using hi) b hb;omega
   ·obtain⟨j,rfl⟩: ∃j',j=j'+1:=⟨j - 1,by omega⟩
    cases i with
    | zero=>
      simp at hi;subst hi
      obtain⟨e,e1⟩:=hf.rng b hb
      have:=i1 j g (by simpa using hj) b' hb'
      omega
    | succ i=>exact i2 i j f g (by omega) (by simpa using hi) (by simpa using hj) b hb b' hb'
 | skip hw hd h ih=>
   obtain⟨i1,i2⟩:=ih
   refine⟨fun i f hi b hb=>?_,fun i j f g hij hi hj b hb b' hb'=>?_⟩
   ·cases i with
    | zero=>simp at hi;subst hi;simp at hb
    | succ i=>exact i1 i f (by simpa using hi) b hb
   ·obtain⟨j,rfl⟩: ∃j',j=j'+1:=⟨j - 1,by omega⟩
    cases i with
    | zero=>simp at hi;subst hi;simp at hb
    | succ i=>exact i2 i j f g (by omega) (by simpa using hi) (by simpa using hj) b hb b' hb'
theorem qdK (i:Nat):(fun k=>decide (k+1 < i+1))=fun k=>decide (k < i):=by funext k;simp
theorem qaI.at {all:Array Oper} {ops:List Oper} {S S':qaa} {frs:List FR} (h:qaI P h0 all ops S frs S'):
  ∀(i:Nat) (o:Oper),ops[i]? =some o→ ∃fr,frs[i]? =some fr∧qkV P h0 all S S' o fr (selS ops frs (fun k=>decide (k < i)) S.s) (selL frs (fun k=>decide (k < i)) S.l):=by
 induction h with
 | nil S=>intro i o ho;simp at ho
 | @op o r S S' fr frs hw hl hf hd h ih=>
   intro i o' ho'
   have hnx:=h.nx
   simp only at hnx
   cases i with
   | zero=>
     simp at ho';subst ho'
     refine⟨fr,rfl,?_⟩
     simp only [Nat.not_lt_zero,decide_false,qbL,qbK]
     refine⟨hd, .inl ⟨hw,hl⟩,hf.reads,hf.new,fun b hb=>?_⟩
     obtain⟨e,e1⟩:=hf.rng b hb;omega
   | succ i=>
     obtain⟨fr',h1,h2⟩:=ih i o' (by simpa using ho')
     refine⟨fr',by simpa using h1,?_⟩
     simp only [selS,selL,qdK,Nat.zero_lt_succ,decide_true,if_true]
     exact⟨h2.dst,h2.does,h2.reads,h2.new,fun b hb=>(by have:=h2.range b hb;simp only at this;omega)⟩
 | @skip o r S S' frs hw hd h ih=>
   intro i o' ho'
   cases i with
   | zero=>
     simp at ho';subst ho'
     refine⟨_,rfl,?_⟩
     simp only [Nat.not_lt_zero,decide_false,qbL,qbK]
     exact⟨hd, .inr ⟨hw,rfl⟩,by simp,by simp,by simp⟩
   | succ i=>
     obtain⟨fr',h1,h2⟩:=ih i o' (by simpa using ho')
     refine⟨fr',by simpa using h1,?_⟩
     simp only [selS,selL,qdK,Nat.zero_lt_succ,decide_true,if_true,List.reverse_nil,List.nil_append]
     exact⟨h2.dst,h2.does,h2.reads,h2.new,h2.range⟩
theorem qaI.last {all:Array Oper} {ops:List Oper} {S S':qaa} {frs:List FR} (h:qaI P h0 all ops S frs S'):
  S'.n=S.n∧S'.d=S.d∧S'.s=selS ops frs (fun _=>true) S.s∧S'.l=selL frs (fun _=>true) S.l:=by
 induction h with
 | nil S=>simp [selS,selL]
 | op hw hl hf hd h ih=>simpa [selS,selL] using ih
 | skip hw hd h ih=>simpa [selS,selL] using ih
/-! ### what the run must not do -/
abbrev FP:=List Nat × List Nat
def FR.fp (f:FR):FP:=(f.R.map (·.1),f.W.map (·.1))
def apF (w:List Nat):Option FP→Prop
 | none=>True
 | some fp=> ∀b∈w,b ∉ fp.1∧b ∉ fp.2
def apL (all:List FP) (w:List Nat):List Nat→Prop
 | []=>True
 | i::l=>apF w all[i]? ∧apL all w l
def chk1 (all:List FP) (ul:Option (List Nat)):List Nat→Prop
 | []=>True
 | b::w=>match ul with
   | none=>False
   | some l=>apL all (b::w) l
def qeS (all:List FP):List (Option (List Nat))→List FP→Prop
 | ul::us,fp::fs=>chk1 all ul fp.2∧qeS all us fs
 | _,_=>True
def chk (u:List (Option (List Nat))) (fps:List FP):Prop:=qeS fps u fps
theorem qkW {all:List FP} {w:List Nat}: ∀ {l:List Nat},apL all w l→ ∀i∈l,∀fp,all[i]? =some fp→ ∀b∈w,b ∉ fp.1∧b ∉ fp.2
 | [],_,i,hi,_,_=>by cases hi
 | k::l,h,i,hi,fp,hf=>by
   rcases List.mem_cons.1 hi with rfl | hi
   ·have:=h.1;rw [hf] at this;exact this
   ·exact qkW h.2 i hi fp hf
theorem qhH {all:List FP}: ∀ {u:List (Option (List Nat))} {fs:List FP},qeS all u fs→u.length=fs.length→ ∀(j:Nat) (fp:FP),fs[j]? =some fp→fp.2≠ []→
  ∃l,u[j]? =some (some l)∧apL all fp.2 l
 | [],fs,_,hl,j,fp,hj,_=>by have:fs= []:=List.eq_nil_of_length_eq_zero hl.symm;subst this;simp at hj
 | ul::us, [],_,_,j,fp,hj,_=>by simp at hj
 | ul::us,f::fs,h,hl,j,fp,hj,hne=>by
   cases j with
   | zero=>
     simp at hj;subst hj
     have h1:=h.1
     cases hw:f.2 with
     | nil=>exact absurd hw hne
     | cons b w=>
       rw [hw] at h1
       simp only [chk1] at h1
       cases ul with
       | none=>exact h1.elim
       | some l=>exact⟨l,rfl,h1⟩
   | succ j=>exact qhH h.2 (by simpa using hl) j fp (by simpa using hj) hne
theorem qir (W:List (Nat × IBlk)): ∀(H:AH) (b:Nat),(H.upd W).A b↔H.A b∨ ∃blk,(b,blk)∈W:=by
 induction W with
 | nil=>intro H b;simp [AH.upd]
 | cons p W ih=>
   intro H b
   obtain⟨k,x⟩:=p
   show((H.put k x).upd W).A b↔_
   rw [ih (H.put k x) b]
   simp only [AH.put,List.mem_cons,Prod.mk.injEq]
   constructor
   ·rintro((h | h) | ⟨blk,h⟩)
    ·exact .inl h
    ·exact .inr ⟨x, .inl ⟨h,rfl⟩⟩
    ·exact .inr ⟨blk, .inr h⟩
   ·rintro(h | ⟨blk,⟨h,_⟩ | h⟩)
    ·exact .inl (.inl h)
    ·exact .inl (.inr h)
    ·exact .inr ⟨blk,h⟩
theorem qgy (W:List (Nat × IBlk)): ∀(H:AH) (b:Nat),(H.upd W).G b=match look W.reverse b with | some x=>some x | none=>H.G b:=by
 induction W with
 | nil=>intro H b;rfl
 | cons p W ih=>
   intro H b
   obtain⟨k,x⟩:=p
   show((H.put k x).upd W).G b=_
   rw [ih (H.put k x) b,List.reverse_cons,qad]
   cases hl:look W.reverse b with
   | some y=>rfl
   | none=>
     simp only [AH.put,look]
     by_cases e:b=k
     ·subst e;simp
     ·rw [if_neg e,if_neg (fun h=>e h.symm)]
theorem ev_rel' {s s':List (Nat × IV)} {M:Mem} {a:Act} (h: ∀i x,look s i=some x→ ∃v,a.tmps[i]? =some v∧VRel M x v) {y:Operand} {z:IV}
  (he: ∀t,y= .tmp t→look s t=look s' t) (hz:ev s' y=some z):VRel M z (a.eval y):=by
 refine qaH h ?_
 cases y with
 | tmp t=>rw [←hz];exact he t rfl
 | const v=>exact hz
 | func f=>exact hz
 | global g=>exact hz
theorem qdu {all:Array Oper} {s s':List (Nat × IV)} {M:Mem} {a:Act} (h: ∀i x,look s i=some x→ ∃v,a.tmps[i]? =some v∧VRel M x v) {o:Oper} {b:Bool}
  (he: ∀j w d,o.guard=some (j,w)→(all[j]?).bind (·.dst)=some d→look s d=look s' d) (hw:qai all s' o=some b):Region.wanted o (yielded all a.tmps)=b:=by
 unfold qai at hw
 unfold Region.wanted
 split at hw
 ·rename_i hg
  simp only [Option.some.injEq] at hw;subst hw
  simp [hg]
 ·rename_i j want hg
  simp only [Option.map_eq_some_iff] at hw
  obtain⟨t,ht,rfl⟩:=hw
  simp only [hg]
  unfold qfO at ht
  split at ht
  ·rename_i d hd
   split at ht
   ·rename_i t' hl
    simp only [Option.some.injEq] at ht;subst ht
    obtain⟨v,h1,h2⟩:=h d _ (by rw [he j want d hg hd];exact hl)
    have:=h2.sc_inv;subst this
    have hy:yielded all a.tmps j=some t':=by
     simp only [yielded,hd,Option.bind_some,h1]
    rw [hy]
    cases t'<;>cases want<;>rfl
   ·rename_i hl
    simp only [Option.some.injEq] at ht;subst ht
    obtain⟨v,h1,h2⟩:=h d _ (by rw [he j want d hg hd];exact hl)
    cases h2 with
    | tup cs vs hl' r=>
      have hy:yielded all a.tmps j=none:=by
       simp only [yielded,hd,Option.bind_some,h1]
      rw [hy]
      cases want<;>rfl
   ·cases ht
  ·cases ht
structure J (M0:Mem) (h0:IH) (ops:List Oper) (frs:List FR) (S:qaa) (L:Nat→Bool) (M:Mem) (a:Act):Prop where
 st:qae M0 M
 rel:MRel M
 A: ∀b,M.H.A b→b < S.nx∨ ∃j fr,L j=true∧frs[j]? =some fr∧b∈fr.F
 G: ∀b,M.H.G b=look (selL frs L S.l++h0.m) b
 size:a.tmps.size=S.n
 slot: ∀t x,look (selS ops frs L S.s) t=some x→ ∃v,a.tmps[t]? =some v∧VRel M x v
 defs:qd3 M S.d a.defers
 closed: ∀(i:Nat) (o:Oper),ops[i]? =some o→L i=true→ ∀e∈o.after.toList,Region.binds .any e=true→L e.on=true
theorem Prec.listed {ops:List Oper} {L:Nat→Bool} (hc: ∀(i:Nat) (o:Oper),ops[i]? =some o→L i=true→ ∀e∈o.after.toList,Region.binds .any e=true→L e.on=true)
  {j i:Nat} (h:Prec ops.toArray j i) (hi:L i=true∨ ∃o,ops[i]? =some o∧ ∀e∈o.after.toList,Region.binds .any e=true→L e.on=true):L j=true:=by
 induction h with
 | edge ho he hb=>
   simp only [List.getElem?_toArray] at ho
   rcases hi with hi | ⟨o',ho',hi⟩
   ·exact hc _ _ ho hi _ he hb
   ·rw [ho] at ho';cases ho';exact hi _ he hb
 | trans _ _ i1 i2=>exact i1 (.inl (i2 hi))
theorem Prec.lt {ops:List Oper} (hc: ∀(i:Nat) (o:Oper),ops[i]? =some o→ ∀e∈o.after.toList,Region.binds .any e=true→e.on < i) {j i:Nat} (h:Prec ops.toArray j i):j < i:=by
 induction h with
 | edge ho he hb=>simp only [List.getElem?_toArray] at ho;exact hc _ _ ho _ he hb
 | trans _ _ i1 i2=>omega
end Go.Idl
/-
 Regions that draw their order: soundness, and their walk.
-/
namespace Go.Idl
variable {P:Program} {h0:IH}
section
variable {ops:List Oper} {frs:List FR} {S S':qaa} {u:List (Option (List Nat))} {M0 M:Mem} {a:Act}
theorem qd5 (hst:Stat ops u) (hlen:frs.length=ops.length) (hc:chk u (frs.map FR.fp)) {i j:Nat} {fi fj:FR} (hf:Free ops i j) (hi:frs[i]? =some fi) (hj:frs[j]? =some fj):
  ∀p∈fj.W,(∀q∈fi.R,q.1≠p.1)∧ ∀q∈fi.W,q.1≠p.1:=by
 intro p hp
 have hlt:=qab hi
 obtain⟨l,h1,h2⟩:=qhH hc (by simp [hst.len,hlen]) j fj.fp (by simp [hj]) (by simp only [FR.fp];intro e;rw [List.map_eq_nil_iff] at e;rw [e] at hp;cases hp)
 have hmem:=hst.un j i l h1 hf (by omega)
 have:=qkW h2 i hmem fi.fp (by simp [hi]) p.1 (by simp only [FR.fp];exact List.mem_map_of_mem hp)
 simp only [FR.fp,List.mem_map,not_exists,not_and] at this
 exact⟨fun q hq=>this.1 q hq,fun q hq=>this.2 q hq⟩
theorem J.free {L:Nat→Bool} (hst:Stat ops u) (hJ:J M0 h0 ops frs S L M a) {i:Nat} {o:Oper} (ho:ops[i]? =some o) (hr: ∀e∈o.after.toList,Region.binds .any e=true→L e.on=true) (hi:L i=false):
  ∀j,L j≠decide (j < i)→Free ops i j:=by
 intro j hj
 have hne:i≠j:=by rintro rfl;simp [hi] at hj
 have hlt: ∀ {x y},Prec ops.toArray x y→x < y:=fun h=>h.lt hst.low
 have hcl: ∀ {x y},Prec ops.toArray x y→(L y=true∨ ∃o,ops[y]? =some o∧ ∀e∈o.after.toList,Region.binds .any e=true→L e.on=true)→L x=true:=fun h h'=>h.listed hJ.closed h'
 refine⟨hne,fun hb=>?_,fun hb=>?_⟩
 ·have hp:=hst.prec j i hb
  have:=hlt hp
  have hj':L j=true:=by simpa [Nat.not_lt.2 (Nat.le_of_lt this)] using hj
  have:=hcl hp (.inl hj')
  rw [hi] at this;cases this
 ·have hp:=hst.prec i j hb
  have h1:=hlt hp
  have:=hcl hp (.inr ⟨o,ho,hr⟩)
  rw [this] at hj
  simp [h1] at hj
theorem J.step {L:Nat→Bool} {ro:Option Nat} (hro:RoOk ro (ops.all ndOp)) (hst:Stat ops u) (hd:qaI P h0 ops.toArray ops S frs S') (hc:chk u (frs.map FR.fp)) (hJ:J M0 h0 ops frs S L M a) {i:Nat} {o:Oper} (ho:ops[i]? =some o)
  (hr: ∀e∈o.after.toList,Region.binds .any e=true→L e.on=true) (hi:L i=false) {K:Act→World→Prop} {Q:Exit→Act→World→Prop}
  (hK: ∀M' a',J M0 h0 ops frs S (fun k=>if k=i then true else L k) M' a'→K a' M'.w):wpOpIn (Wd ro) 0 P ops.toArray Q i K a M.w:=by
 obtain⟨fr,hfr,hat⟩:=hd.at i o ho
 have hfree:=hJ.free hst ho hr hi
 have hlen:=hd.length
 have hslot: ∀t,t∈o.looksAt ops.toArray→look (selS ops frs L S.s) t=look (selS ops frs (fun k=>decide (k < i)) S.s) t:=by
  intro t ht
  refine selS_agree rfl fun j oj hj hne e=>?_
  exact hst.looks i j o oj (hfree j hne) ho hj t e ht
 have hread: ∀p∈fr.R,look (selL frs L S.l++h0.m) p.1=some p.2:=by
  intro p hp
  rw [←hat.reads p hp,qad,qad]
  congr 1
  rw [qbJ (l':=S.l) rfl fun j f hj hne q hq=>?_]
  exact fun e=>((qd5 hst hlen hc (hfree j hne) hfr hj q hq).1 p hp) e.symm
 have hA: ∀b,M.H.A b→b < S'.nx:=by
  intro b hb
  rcases hJ.A b hb with h | ⟨j,f,_,hf,hb⟩
  ·exact Nat.lt_of_lt_of_le h hd.nx
  ·exact(hd.fresh.1 j f hf b hb).2
 have hM:HRel S'.nx (selL frs L S.l++h0.m) M:=⟨hJ.rel,hA,hJ.G⟩
 have hfresh: ∀b∈fr.F,¬M.H.A b:=by
  intro b hb hab
  obtain⟨r1,_⟩:=hd.fresh.1 i fr hfr b hb
  rcases hJ.A b hab with h | ⟨j,f,hLj,hf,hb'⟩
  ·omega
  ·have hne:j≠i:=by rintro rfl;rw [hi] at hLj;cases hLj
   rcases Nat.lt_or_gt_of_ne hne with h | h
   ·have:=hd.fresh.2 j i f fr h hf hfr b hb' b hb;omega
   ·have:=hd.fresh.2 i j fr f h hfr hf b hb b hb';omega
 have hops: ∀y∈o.op.operands,∀z,ev (selS ops frs (fun k=>decide (k < i)) S.s) y=some z→VRel M z (a.eval y):=by
  intro y hy z hz
  refine ev_rel' hJ.slot (fun t ht=>hslot t ?_) hz
  subst ht
  exact List.mem_append_left _ (List.mem_filterMap.2 ⟨.tmp t,by simpa using hy,rfl⟩)
 have hguard: ∀j w d,o.guard=some (j,w)→(ops.toArray[j]?).bind (·.dst)=some d→look (selS ops frs L S.s) d=look (selS ops frs (fun k=>decide (k < i)) S.s) d:=by
  intro j w d hg hdd
  refine hslot d (List.mem_append_right _ ?_)
  rw [hg]
  simp only [hdd]
  simp
 -- what stands behind the operation
 have hnext: ∀(v:Value) (M':Mem),qae M M'→MRel M'→M'.H=M.H.upd fr.W→VRel M' fr.x v→J M0 h0 ops frs S (fun k=>if k=i then true else L k) M' (a.put o.dst v):=by
  intro v M' st rel hH hv
  have hdiff: ∀j,(if j=i then true else L j)≠L j→j=i:=by
   intro j h;by_cases e:j=i
   ·exact e
   ·rw [if_neg e] at h;exact absurd rfl h
  refine⟨hJ.st.trans st,rel,fun b hb=>?_,fun b=>?_,?_,fun t x hx=>?_,?_,fun k ok hk hl e he hb=>?_⟩
  ·rw [hH,qir] at hb
   rcases hb with hb | ⟨blk,hb⟩
   ·rcases hJ.A b hb with h | ⟨j,f,h1,h2,h3⟩
    ·exact .inl h
    ·exact .inr ⟨j,f,by by_cases e:j=i<;>simp [e,h1],h2,h3⟩
   ·rcases hat.new _ hb with h | ⟨blk',h⟩
    ·exact .inr ⟨i,fr,by simp,hfr,h⟩
    ·have h1:=hread _ h
     simp only at h1
     rw [←hJ.G] at h1
     rcases hJ.A b (hJ.rel.dom b _ h1) with h | ⟨j,f,h1,h2,h3⟩
     ·exact .inl h
     ·exact .inr ⟨j,f,by by_cases e:j=i<;>simp [e,h1],h2,h3⟩
  ·rw [hH,qgy,qad]
   cases hw:look fr.W.reverse b with
   | some blk=>
     rw [qi0 (i:=i) (by simp) hfr hw fun j f hj hlt hLj p hp e=>?_]
     have hLj':L j=true:=by simpa [show j≠i by omega] using hLj
     have hfj:=hfree j (by rw [hLj'];simp;omega)
     have hq:=qaD hw
     exact(qd5 hst hlen hc hfj hfr hj p hp).2 _ (by simpa using hq) e.symm
   | none=>
     rw [qbJ (l':=S.l) (L':=L) rfl fun j f hj hne p hp e=>?_]
     ·rw [hJ.G b,qad]
     ·have:=hdiff j hne
      subst this
      rw [hfr] at hj;cases hj
      exact look_none hw p (by simpa using hp) e
  ·cases hdst:o.dst with
   | none=>exact hJ.size
   | some d=>simp only [Act.put,Array.size_setIfInBounds];exact hJ.size
  ·by_cases e:o.dst=some t
   ·rw [qi1 (i:=i) (by simp) ho hfr e (fun j oj hj hne=>hst.dst i j o oj (Ne.symm hne) ho hj t e)] at hx
    cases hx
    have hlt:t < a.tmps.size:=by
     have:=hat.dst
     rw [e] at this
     rw [hJ.size];simpa [dOk] using this
    exact⟨v,by rw [e];simp [Act.put,hlt],hv⟩
   ·rw [selS_agree (L':=L) (s':=S.s) rfl fun j oj hj hne=>(by have:=hdiff j hne;subst this;rw [ho] at hj;cases hj;exact e)] at hx
    obtain⟨v',h1,h2⟩:=hJ.slot t x hx
    refine⟨v',?_,h2.step st⟩
    cases hdst:o.dst with
    | none=>exact h1
    | some d=>
      simp only [Act.put]
      rw [Array.getElem?_setIfInBounds_ne (fun h=>e (by rw [hdst,h]))]
      exact h1
  ·have:(a.put o.dst v).defers=a.defers:=by cases o.dst<;>rfl
   rw [this]
   exact hJ.defs.step st
  ·by_cases ek:k=i
   ·subst ek
    rw [ho] at hk;cases hk
    have:=hr e he hb
    show(if e.on=k then true else L e.on)=true
    split<;>simp [this]
   ·have hl':L k=true:=by simpa [ek] using hl
    have:=hJ.closed k ok hk hl' e he hb
    show(if e.on=i then true else L e.on)=true
    split<;>simp [this]
 refine qkf (fun o' ho'=>hro.mem (List.mem_of_getElem? (by simpa using ho'))) ?_
 simp only [List.getElem?_toArray,ho]
 rcases hat.does with ⟨hw,hl⟩ | ⟨hw,he⟩
 ·rw [if_pos (qdu hJ.slot hguard hw)]
  exact(hl S'.nx _ M a hM hread hfresh hops K Q fun v M' st rel hH hv=>hK M' _ (hnext v M' st rel hH hv))
 ·rw [qdu hJ.slot hguard hw]
  simp only [Bool.false_eq_true,if_false]
  refine hK M _ (hnext undef M (.refl M) hJ.rel (by rw [he];rfl) (by rw [he];exact qin _))
theorem qpm {ro:Option Nat} (hro:RoOk ro (ops.all ndOp)) (hst:Stat ops u) (hd:qaI P h0 ops.toArray ops S frs S') (hc:chk u (frs.map FR.fp)) {Q:Exit→Act→World→Prop} (hQ: ∀M a,qae M0 M→SRel h0 S' M a→Q .normal a M.w):
  ∀(fuel:Nat) (listed:Array Bool) (M:Mem) (a:Act),listed.size=ops.length→(listed.toList.filter (·==true)).length+fuel=ops.length→
   J M0 h0 ops frs S (fun k=>listed.getD k false) M a→wpAnyIn (Wd ro) 0 P .any ops.toArray Q fuel listed a M.w:=by
 have hgetD: ∀(listed:Array Bool) (k:Nat),k < listed.size→listed.getD k true=listed.getD k false:=by
  intro listed k hk;simp [hk]
 -- all are listed: the end
 have hend: ∀(listed:Array Bool) (M:Mem) (a:Act),(∀k,k < ops.length→listed.getD k false=true)→J M0 h0 ops frs S (fun k=>listed.getD k false) M a→Q .normal a M.w:=by
  intro listed M a hall hJ
  obtain⟨l1,l2,l3,l4⟩:=hd.last
  have hlen:=hd.length
  refine hQ M a hJ.st ⟨⟨hJ.rel,fun b hb=>?_,fun b=>?_⟩,by rw [l1];exact hJ.size,fun t x hx=>?_,by rw [l2];exact hJ.defs⟩
  ·rcases hJ.A b hb with h | ⟨j,f,_,h2,h3⟩
   ·exact Nat.lt_of_lt_of_le h hd.nx
   ·exact(hd.fresh.1 j f h2 b h3).2
  ·rw [hJ.G b,l4,qad,qad]
   congr 1
   exact qbJ rfl fun j f hj hne=>absurd (hall j (by have:=qab hj;omega)) hne
  ·rw [l3] at hx
   refine hJ.slot t x ?_
   rw [←hx]
   exact selS_agree rfl fun j o hj hne=>absurd (hall j (qab hj)) hne
 have hready: ∀(listed:Array Bool),listed.size=ops.length→Region.ready .any ops.toArray listed= []→ ∀k,k < ops.length→listed.getD k false=true:=by
  intro listed hs hr k
  induction k using Nat.strongRecOn with
  | ind k ih=>
    intro hk
    cases hl:listed.getD k false with
    | true=>rfl
    | false=>
      exfalso
      have:k∈Region.ready .any ops.toArray listed:=by
       rw [mem_ready]
       refine⟨by rw [hgetD listed k (by omega)];exact hl,ops[k],by simp [hk],fun e he hb=>?_⟩
       have hlow:=hst.low k ops[k] (by simp [hk]) e (by simpa using he) hb
       exact ih e.on hlow (by omega)
      rw [hr] at this
      cases this
 have hcount: ∀(l:List Bool),(l.filter (·==true)).length=l.length→ ∀k,k < l.length→(l[k]?).getD false=true:=by
  intro l
  induction l with
  | nil=>intro _ k hk;simp at hk
  | cons b l ih=>
    intro h k hk
    have hle:=List.length_filter_le (·==true) l
    cases b with
    | true=>
      simp only [List.filter_cons,beq_self_eq_true,if_true,List.length_cons] at h
      cases k with
      | zero=>simp
      | succ k=>simpa using ih (by omega) k (by simpa using hk)
    | false=>
      simp at h
      simp at hle
      omega
 have hset: ∀(l:List Bool) (i:Nat),l[i]? =some false→((l.set i true).filter (·==true)).length=(l.filter (·==true)).length+1:=by
  intro l
  induction l with
  | nil=>intro i h;simp at h
  | cons b l ih=>
    intro i h
    cases i with
    | zero=>simp at h;subst h;simp
    | succ i=>
      have:=ih i (by simpa using h)
      simp only [List.set_cons_succ,List.filter_cons]
      split<;>simp_all
 intro fuel
 induction fuel with
 | zero=>
   intro listed M a hs hn hJ
   have hall: ∀k,k < ops.length→listed.getD k false=true:=by
    intro k hk
    have:=hcount listed.toList (by simpa [hs] using hn) k (by simpa [hs] using hk)
    simpa using this
   refine⟨?_,hend listed M a hall hJ⟩
   cases hr:Region.ready .any ops.toArray listed with
   | nil=>rfl
   | cons k r=>
     exfalso
     have hk:k∈Region.ready .any ops.toArray listed:=by rw [hr];simp
     obtain⟨h1,o,ho,_⟩:=mem_ready.1 hk
     have hlt:k < ops.length:=by simp only [List.getElem?_toArray] at ho;exact qab ho
     rw [hgetD listed k (by omega),hall k hlt] at h1
     cases h1
 | succ fuel ih=>
   intro listed M a hs hn hJ
   refine⟨fun hr=>hend listed M a (hready listed hs hr) hJ,fun i hi=>?_⟩
   obtain⟨h1,o,ho,hre⟩:=mem_ready.1 hi
   simp only [List.getElem?_toArray] at ho
   have hlt:=qab ho
   have hfalse:listed.getD i false=false:=by rw [←hgetD listed i (by omega)];exact h1
   refine hJ.step hro hst hd hc ho (fun e he hb=>hre e (by simpa using he) hb) hfalse fun M' a' hJ'=>?_
   refine ih _ M' a' (by simpa using hs) ?_ ?_
   ·have hb:listed.toList[i]? =some false:=by
     have hi':i < listed.size:=by omega
     simp [hi'] at hfalse
     simp [hi',hfalse]
    have:=hset listed.toList i hb
    simp only [Array.toList_setIfInBounds]
    omega
   ·have:(fun k=>(listed.setIfInBounds i true).getD k false)=fun k=>if k=i then true else listed.getD k false:=by
     funext k
     by_cases e:k=i
     ·subst e
      have hi':k < listed.size:=by omega
      simp [hi']
     ·rw [getD_set_ne false (Ne.symm e),if_neg e]
    rw [this]
    exact hJ'
theorem qe5 {id:Nat} {k:List It} {Q:Exit→qaa→Prop} (hm:P.follows .mixedOrders=true) (hst:stat ops u=true) (hd:qaI P h0 ops.toArray ops S frs S') (hc:chk u (frs.map FR.fp))
  (h:IRun P h0 k S' Q):IRun P h0 (.code (.region id ops.toArray true)::k) S Q:=by
 intro M0 hM0 M a hs hr ro hro
 refine wpIn_region_any hm ?_
 have:=qpm (M0:=M0) (ro:=ro) hro (qjQ hst) hd hc (Q:=qcA h0 M0 fun e S=>after P h0 Q k e S) (fun M' a' st hrel=>⟨M',S',rfl,st,hrel,h⟩) ops.length (Array.replicate ops.length false)
  {M with w:=M.w.drew} a (by simp) (by simp) ?_
 ·simp only [List.size_toArray]
  exact this
 ·have hsel:(fun k=>(Array.replicate ops.length false).getD k false)=fun _=>false:=by
   funext k
   simp only [Array.getD_eq_getD_getElem?,Array.getElem?_replicate]
   split<;>rfl
  rw [hsel]
  exact⟨hs.trans (.drew M),hr.heap.rel.drew,fun b hb=> .inl (hr.heap.A b hb),fun b=>(by rw [qbK];exact hr.heap.G b),hr.size,
   fun t x hx=>(by rw [qbL] at hx;obtain⟨v,h1,h2⟩:=hr.slot t x hx;exact⟨v,h1,h2.step (.drew M)⟩),hr.defs.step (.drew M),fun i o ho hl=>(by cases hl)⟩
end
/-! ### the walk -/
def DRun (P:Program) (h0:IH) (all:Array Oper) (l:List Oper) (S:qaa) (acc:List FP) (K:qaa→List FP→Prop):Prop:=
 ∃frs S',qaI P h0 all l S frs S'∧K S' (acc++frs.map FR.fp)
theorem drun_nil {all:Array Oper} {S:qaa} {acc:List FP} {K:qaa→List FP→Prop} (h:K S acc):DRun P h0 all [] S acc K:=⟨[],S, .nil S,by simpa using h⟩
theorem drun_op {all:Array Oper} {o:Oper} {r:List Oper} {S:qaa} {acc:List FP} {K:qaa→List FP→Prop} {fr:FR} (hw:qai all S.s o=some true)
  (hf:fop P (ev S.s) (look (S.l++h0.m)) S.nx all o.dst o.op=some fr) (hd:dOk S.n o.dst=true)
  (h:DRun P h0 all r ⟨S.n,putS o.dst fr.x S.s,S.d,S.nx+fr.F.length,fr.W.reverse++S.l⟩ (acc++ [fr.fp]) K):DRun P h0 all (o::r) S acc K:=by
 obtain⟨frs,S',h1,h2⟩:=h
 obtain⟨hdo,hfit⟩:=fop_sound hf
 exact⟨fr::frs,S', .op hw (qbh.loc hdo) hfit.G hd h1,by simpa using h2⟩
theorem drun_skip {all:Array Oper} {o:Oper} {r:List Oper} {S:qaa} {acc:List FP} {K:qaa→List FP→Prop} (hw:qai all S.s o=some false) (hd:dOk S.n o.dst=true)
  (h:DRun P h0 all r ⟨S.n,putS o.dst (.tup []) S.s,S.d,S.nx,S.l⟩ (acc++ [([], [])]) K):DRun P h0 all (o::r) S acc K:=by
 obtain⟨frs,S',h1,h2⟩:=h
 exact⟨_::frs,S', .skip hw hd h1,by simpa [FR.fp] using h2⟩
theorem qjd {all:Array Oper} {dst:Option Tmp} {ty:TypeId} {pos:String} {aft:Array Edge} {g:Option (Nat × Bool)} {r:List Oper} {S:qaa} {acc:List FP} {K:qaa→List FP→Prop} {f:Operand} {args:List Operand} {ts:Array TypeId} {n:FuncId} {zs:List IV} {x:IV} {R:List (Nat × IBlk)}
  (hw:qai all S.s ⟨dst, .call {callee:= .value f,args:=⟨args⟩,argTypes:=ts},ty,pos,aft,g⟩=some true) (hc:qas (ev S.s) f args=some (n,zs)) (hn:fnOk P n=true) (hd:dOk S.n dst=true)
  (hR: ∀p∈R,look (S.l++h0.m) p.1=some p.2) (hp:PCall P n zs R x) (hx:bel 0 x)
  (h:DRun P h0 all r ⟨S.n,putS dst x S.s,S.d,S.nx,S.l⟩ (acc++ [(R.map (·.1), [])]) K):
  DRun P h0 all (⟨dst, .call {callee:= .value f,args:=⟨args⟩,argTypes:=ts},ty,pos,aft,g⟩::r) S acc K:=by
 obtain⟨frs,S',h1,h2⟩:=h
 refine⟨{x,R}::frs,S', .op hw (PCall.loc rfl hc hn hx hp) (FR.fits.G ⟨hR, .inl ⟨rfl,by simp⟩⟩) hd ?_,by simpa [FR.fp] using h2⟩
 simpa using h1
def dvc (P:Program) (h0:IH) (all:Array Oper) (K:qaa→List FP→Prop):List Oper→qaa→List FP→Prop
 | [],S,acc=>K S acc
 | ⟨dst,op,ty,pos,aft,none⟩::r,S,acc=>
   qaq (fop P (ev S.s) (look (S.l++h0.m)) S.nx all dst op)
    (fun fr=>if dOk S.n dst then dvc P h0 all K r ⟨S.n,putS dst fr.x S.s,S.d,S.nx+fr.F.length,fr.W.reverse++S.l⟩ (acc++ [fr.fp]) else False)
    (DRun P h0 all (⟨dst,op,ty,pos,aft,none⟩::r) S acc K)
 | ⟨dst,op,ty,pos,aft,some g⟩::r,S,acc=>
   qaq (qai all S.s ⟨dst,op,ty,pos,aft,some g⟩)
    (fun b=>qbt b
     (qaq (fop P (ev S.s) (look (S.l++h0.m)) S.nx all dst op)
      (fun fr=>if dOk S.n dst then dvc P h0 all K r ⟨S.n,putS dst fr.x S.s,S.d,S.nx+fr.F.length,fr.W.reverse++S.l⟩ (acc++ [fr.fp]) else False)
      (DRun P h0 all (⟨dst,op,ty,pos,aft,some g⟩::r) S acc K))
     (if dOk S.n dst then dvc P h0 all K r ⟨S.n,putS dst (.tup []) S.s,S.d,S.nx,S.l⟩ (acc++ [([], [])]) else False))
    (DRun P h0 all (⟨dst,op,ty,pos,aft,some g⟩::r) S acc K)
theorem qpp {all:Array Oper} {o:Oper} {r:List Oper} {S:qaa} {acc:List FP} {K:qaa→List FP→Prop} (hw:qai all S.s o=some true)
  (ih: ∀S acc,dvc P h0 all K r S acc→DRun P h0 all r S acc K)
  (h:qaq (fop P (ev S.s) (look (S.l++h0.m)) S.nx all o.dst o.op)
   (fun fr=>if dOk S.n o.dst then dvc P h0 all K r ⟨S.n,putS o.dst fr.x S.s,S.d,S.nx+fr.F.length,fr.W.reverse++S.l⟩ (acc++ [fr.fp]) else False)
   (DRun P h0 all (o::r) S acc K)):DRun P h0 all (o::r) S acc K:=by
 cases hf:fop P (ev S.s) (look (S.l++h0.m)) S.nx all o.dst o.op with
 | none=>rw [hf] at h;exact h
 | some fr=>
   rw [hf,qaj] at h
   split at h
   ·rename_i hd
    exact drun_op hw hf hd (ih _ _ h)
   ·exact h.elim
theorem dvc_sound {all:Array Oper} {K:qaa→List FP→Prop}: ∀(l:List Oper) (S:qaa) (acc:List FP),dvc P h0 all K l S acc→DRun P h0 all l S acc K:=by
 intro l
 induction l with
 | nil=>intro S acc h;exact drun_nil h
 | cons o r ih=>
   intro S acc h
   obtain⟨dst,op,ty,pos,aft,g⟩:=o
   cases g with
   | none=>exact qpp rfl ih h
   | some g=>
     simp only [dvc] at h
     cases hw:qai all S.s ⟨dst,op,ty,pos,aft,some g⟩ with
     | none=>rw [hw,qcx] at h;exact h
     | some b=>
       rw [hw,qaj] at h
       cases b with
       | true=>exact qpp hw ih h
       | false=>
         simp only [qbt,Bool.false_eq_true,if_false] at h
         split at h
         ·rename_i hd
          exact drun_skip hw hd (ih _ _ h)
         ·exact h.elim
theorem irun_walk {ops:List Oper} {id n:Nat} {k:List It} {S:qaa} {Q:Exit→qaa→Prop} (u:List (Option (List Nat))) (hm:P.follows .mixedOrders=true) (hst:stat ops u=true)
  (h:dvc P h0 ops.toArray (fun S' fps=>chk u fps∧vc P h0 Q n k S') ops S []):IRun P h0 (.code (.region id ops.toArray true)::k) S Q:=by
 obtain⟨frs,S',h1,h2,h3⟩:=dvc_sound _ _ _ h
 exact qe5 hm hst h1 (by simpa using h2) (vc_sound Q n k S' h3)
end Go.Idl
/-
 The rewriting rules of the walk of regions that draw their order; calls in the walk.
-/
namespace Go.Idl
section
variable {P:Program} {h0:IH} {all:Array Oper} {K:qaa→List FP→Prop} {r:List Oper} {dst:Option Tmp} {op:Op} {ty:TypeId} {pos:String} {aft:Array Edge} {N:Nat} {s:List (Nat × IV)} {d:List IDef} {nx:Nat} {l:List (Nat × IBlk)} {acc:List FP}
@[go_sem ↓] theorem dvc_nil {S:qaa}:dvc P h0 all K [] S acc=K S acc:=(rfl)
def qb5 (P:Program) (h0:IH) (all:Array Oper) (K:qaa→List FP→Prop) (o:Oper) (r:List Oper) (N:Nat) (s:List (Nat × IV)) (d:List IDef) (nx:Nat) (l:List (Nat × IBlk)) (acc:List FP) (x:Option FR):Prop:=
 qaq x (fun fr=>if dOk N o.dst then dvc P h0 all K r ⟨N,putS o.dst fr.x s,d,nx+fr.F.length,fr.W.reverse++l⟩ (acc++ [fr.fp]) else False)
  (DRun P h0 all (o::r) ⟨N,s,d,nx,l⟩ acc K)
@[go_sem ↓] theorem dvc_ops:dvc P h0 all K (⟨dst,op,ty,pos,aft,none⟩::r) ⟨N,s,d,nx,l⟩ acc=
  qb5 P h0 all K ⟨dst,op,ty,pos,aft,none⟩ r N s d nx l acc (fop P (ev s) (look (l++h0.m)) nx all dst op):=(rfl)
@[go_sem ↓] theorem qst {g:Option (Nat × Bool)} {t:Tmp} {x:IV} {R W:List (Nat × IBlk)} {F:List Nat}:
  qb5 P h0 all K ⟨some t,op,ty,pos,aft,g⟩ r N s d nx l acc (some ⟨x,R,F,W⟩)=
   if t < N then dvc P h0 all K r ⟨N,(t,x)::s,d,nx+F.length,W.reverse++l⟩ (acc++ [(R.map (·.1),W.map (·.1))]) else False:=by
  simp [qb5,qaq,dOk,putS,FR.fp]
@[go_sem ↓] theorem qss {g:Option (Nat × Bool)} {x:IV} {R W:List (Nat × IBlk)} {F:List Nat}:
  qb5 P h0 all K ⟨none,op,ty,pos,aft,g⟩ r N s d nx l acc (some ⟨x,R,F,W⟩)=
   dvc P h0 all K r ⟨N,s,d,nx+F.length,W.reverse++l⟩ (acc++ [(R.map (·.1),W.map (·.1))]):=by
  simp [qb5,qaq,dOk,putS,FR.fp]
@[go_sem ↓] theorem qsl {o:Oper}:qb5 P h0 all K o r N s d nx l acc none=DRun P h0 all (o::r) ⟨N,s,d,nx,l⟩ acc K:=(rfl)
theorem qjZ {o:Oper} {x x':Option FR} (h:x=x'):qb5 P h0 all K o r N s d nx l acc x=qb5 P h0 all K o r N s d nx l acc x':=by rw [h]
def qcn (P:Program) (h0:IH) (all:Array Oper) (K:qaa→List FP→Prop) (o:Oper) (r:List Oper) (N:Nat) (s:List (Nat × IV)) (d:List IDef) (nx:Nat) (l:List (Nat × IBlk)) (acc:List FP) (x:Option Bool):Prop:=
 qaq x (fun b=>qbt b (qb5 P h0 all K o r N s d nx l acc (fop P (ev s) (look (l++h0.m)) nx all o.dst o.op))
  (if dOk N o.dst then dvc P h0 all K r ⟨N,putS o.dst (.tup []) s,d,nx,l⟩ (acc++ [([], [])]) else False)) (DRun P h0 all (o::r) ⟨N,s,d,nx,l⟩ acc K)
@[go_sem ↓] theorem qsh {g:Nat × Bool}:dvc P h0 all K (⟨dst,op,ty,pos,aft,some g⟩::r) ⟨N,s,d,nx,l⟩ acc=
  qcn P h0 all K ⟨dst,op,ty,pos,aft,some g⟩ r N s d nx l acc (qai all s ⟨dst,op,ty,pos,aft,some g⟩):=(rfl)
@[go_sem ↓] theorem qrk {o:Oper}:qcn P h0 all K o r N s d nx l acc (some true)=qb5 P h0 all K o r N s d nx l acc (fop P (ev s) (look (l++h0.m)) nx all o.dst o.op):=(rfl)
@[go_sem ↓] theorem qqj {g:Option (Nat × Bool)} {t:Tmp}:qcn P h0 all K ⟨some t,op,ty,pos,aft,g⟩ r N s d nx l acc (some false)=
  if t < N then dvc P h0 all K r ⟨N,(t, .tup [])::s,d,nx,l⟩ (acc++ [([], [])]) else False:=by
  simp [qcn,qaq,qbt,dOk,putS]
theorem qgR {o:Oper} {x x':Option Bool} (h:x=x'):qcn P h0 all K o r N s d nx l acc x=qcn P h0 all K o r N s d nx l acc x':=by rw [h]
theorem qoq {S S':qaa} (h:S=S'):DRun P h0 all r S acc K=DRun P h0 all r S' acc K:=by rw [h]
end
section
variable {P:Program} {h0:IH} {Q:Exit→qaa→Prop} {n:Nat} {k:List It} {all:Array Oper} {r:List Oper} {dst:Option Tmp} {op:Op} {ty:TypeId} {pos:String} {aft:Array Edge} {N:Nat} {s:List (Nat × IV)} {d:List IDef} {nx:Nat} {l:List (Nat × IBlk)}
theorem ql5 (n:Nat) {g:Option (Nat × Bool)} {f:Operand} {args:List Operand} {ts:Array TypeId} {c:FuncId} {zs:List IV} {x:IV} {R:List (Nat × IBlk)}
  (hc:qas (ev s) f args=some (c,zs)) (hp:PCall P c zs R x) (hR: ∀p∈R,look (l++h0.m) p.1=some p.2)
  (hw:qai all s ⟨dst, .call {callee:= .value f,args:=⟨args⟩,argTypes:=ts},ty,pos,aft,g⟩=some true) (hn:fnOk P c=true) (hd:dOk N dst=true)
  (h:vc P h0 Q n (.ops all r::k) ⟨N,putS dst x s,d,nx,l⟩):
  IRun P h0 (.ops all (⟨dst, .call {callee:= .value f,args:=⟨args⟩,argTypes:=ts},ty,pos,aft,g⟩::r)::k) ⟨N,s,d,nx,l⟩ Q:=
 qoA hw hc hn hd hR hp (vc_sound Q n _ _ h)
theorem qis {g:Option (Nat × Bool)} {f:Operand} {args:List Operand} {ts:Array TypeId} {c:FuncId} {zs:List IV} {x:IV} {R:List (Nat × IBlk)} {acc:List FP} {K:qaa→List FP→Prop}
  (hc:qas (ev s) f args=some (c,zs)) (hp:PCall P c zs R x) (hR: ∀p∈R,look (l++h0.m) p.1=some p.2)
  (hw:qai all s ⟨dst, .call {callee:= .value f,args:=⟨args⟩,argTypes:=ts},ty,pos,aft,g⟩=some true) (hn:fnOk P c=true) (hd:dOk N dst=true) (hx:bel 0 x)
  (h:dvc P h0 all K r ⟨N,putS dst x s,d,nx,l⟩ (acc++ [(R.map (·.1), [])])):
  DRun P h0 all (⟨dst, .call {callee:= .value f,args:=⟨args⟩,argTypes:=ts},ty,pos,aft,g⟩::r) ⟨N,s,d,nx,l⟩ acc K:=
 qjd hw hc hn hd hR hp hx (dvc_sound _ _ _ h)
end
attribute [congr] qjZ qgR qoq
attribute [go_sem] qas chk qeS chk1 apL apF putS dOk
abbrev Pure (P:Program) (f:FuncId) (args:List IV) (x:IV):Prop:=PCall P f args [] x
end Go.Idl
