/- Facts that the proofs of this claim lean on. -/
import Derived.Test.YtfhhdgkhajkapaaGreatIdNl
set_option linter.unusedSimpArgs false
set_option linter.unusedVariables false
/-
 A closed call that gives one new owned block, by computing.
-/
namespace Go.Idl
variable {P:Program}
end Go.Idl
/-
 Regions that draw their order, order by order: for those whose operations do not leave each other alone.
-/
namespace Go.Idl
variable {P:Program} {h0:IH}
inductive OT where
 | leaf
 | node (bs:List (Nat × OT))
def oidx:List (Nat × OT)→List Nat
 | []=> []
 | b::r=>b.1::oidx r
def lbeq:List Nat→List Nat→Bool
 | [], []=>true
 | a::r,b::s=>Nat.beq a b && lbeq r s
 | _,_=>false
theorem qfR: ∀ {l k:List Nat},lbeq l k=true→l=k
 | [], [],_=>rfl
 | a::r,b::s,h=>by
   simp only [lbeq,Bool.and_eq_true] at h
   rw [Nat.eq_of_beq_eq_true h.1,qfR h.2]
 | [],_::_,h=>by cases h
 | _::_, [],h=>by cases h
mutual
def OT.all (ops:Array Oper):OT→Nat→Array Bool→Bool
 | .leaf,_,listed=>lbeq (Region.ready .any ops listed) []
 | .node bs,f+1,listed=>lbeq (oidx bs) (Region.ready .any ops listed) && !(bs.isEmpty) && OT.alls ops bs f listed
 | .node _,0,_=>false
def OT.alls (ops:Array Oper):List (Nat × OT)→Nat→Array Bool→Bool
 | [],_,_=>true
 | (i,t)::r,f,listed=>OT.all ops t f (listed.setIfInBounds i true) && OT.alls ops r f listed
end
def oStep (K:qaa→Prop) (o:Oper) (N:Nat) (s:List (Nat × IV)) (d:List IDef) (nx:Nat) (l:List (Nat × IBlk)) (x:Option FR):Prop:=
 qap x (fun fr=>if dOk N o.dst then K ⟨N,putS o.dst fr.x s,d,nx+fr.F.length,fr.W.reverse++l⟩ else False) False
def qft (P:Program) (h0:IH) (all:Array Oper) (K:qaa→Prop) (o:Oper) (N:Nat) (s:List (Nat × IV)) (d:List IDef) (nx:Nat) (l:List (Nat × IBlk)) (x:Option Bool):Prop:=
 qap x (fun b=>qbo b (oStep K o N s d nx l (fop P (ev s) (look (l++h0.m)) nx all o.dst o.op)) (if dOk N o.dst then K ⟨N,putS o.dst (.tup []) s,d,nx,l⟩ else False)) False
def oOne (P:Program) (h0:IH) (all:Array Oper) (K:qaa→Prop) (o:Option Oper) (S:qaa):Prop:=
 qap o (fun o=>qft P h0 all K o S.n S.s S.d S.nx S.l (qam all S.s o)) False
mutual
def qcn (P:Program) (h0:IH) (all:Array Oper) (fin:qaa→Prop):OT→qaa→Prop
 | .leaf,S=>fin S
 | .node bs,S=>qck P h0 all fin bs S
def qck (P:Program) (h0:IH) (all:Array Oper) (fin:qaa→Prop):List (Nat × OT)→qaa→Prop
 | [],_=>True
 | (i,t)::r,S=>oOne P h0 all (fun S'=>qcn P h0 all fin t S') all[i]? S∧qck P h0 all fin r S
end
theorem otrees_mem {all:Array Oper} {fin:qaa→Prop}: ∀ {bs:List (Nat × OT)} {S:qaa},qck P h0 all fin bs S→ ∀b∈bs,oOne P h0 all (fun S'=>qcn P h0 all fin b.2 S') all[b.1]? S
 | (i,t)::r,S,h,b,hb=>by
   rw [qck] at h
   rcases List.mem_cons.1 hb with rfl | hb
   ·exact h.1
   ·exact otrees_mem h.2 b hb
theorem alls_mem {ops:Array Oper} {f:Nat} {listed:Array Bool}: ∀ {bs:List (Nat × OT)},OT.alls ops bs f listed=true→ ∀b∈bs,OT.all ops b.2 f (listed.setIfInBounds b.1 true)=true
 | (i,t)::r,h,b,hb=>by
   rw [OT.alls,Bool.and_eq_true] at h
   rcases List.mem_cons.1 hb with rfl | hb
   ·exact h.1
   ·exact alls_mem h.2 b hb
theorem oidx_mem: ∀ {bs:List (Nat × OT)} {i:Nat},i∈oidx bs→ ∃t,(i,t)∈bs
 | (j,t)::r,i,h=>by
   rw [oidx] at h
   rcases List.mem_cons.1 h with rfl | h
   ·exact⟨t,List.mem_cons_self ..⟩
   ·obtain⟨t,ht⟩:=oidx_mem h
    exact⟨t,List.mem_cons_of_mem _ ht⟩
theorem qpj {all:Array Oper} {K:qaa→Prop} {i:Nat} {S:qaa} {M0 M:Mem} {a:Act} {Q:Exit→Act→World→Prop} {ro:Option Nat} (hro:RoOk ro (all.toList.all ndOp)) (h:oOne P h0 all K all[i]? S) (hs:qad M0 M) (hr:SRel h0 S M a):
  wpOpIn (Wd ro) 0 P all Q i (fun a' w'=> ∃M' S',M'.w=w'∧qad M0 M'∧SRel h0 S' M' a'∧K S') a M.w:=by
 refine qjd (fun o' ho'=>hro.mem (List.mem_of_getElem? (by simpa using ho'))) ?_
 cases ho:all[i]? with
 | none=>rw [ho] at h;exact h.elim
 | some o=>
   rw [ho] at h
   simp only [oOne,qaj,qft] at h
   cases hw:qam all S.s o with
   | none=>rw [hw] at h;exact h.elim
   | some b=>
     rw [hw,qaj] at h
     simp only
     rw [qaR hr hw]
     cases b with
     | true=>
       simp only [qbo,if_true] at h ⊢
       unfold oStep at h
       cases hf:fop P (ev S.s) (look (S.l++h0.m)) S.nx all o.dst o.op with
       | none=>rw [hf] at h;exact h.elim
       | some fr=>
         rw [hf,qaj] at h
         split at h
         ·rename_i hd
          have hd':qay S o.dst=true:=by cases hq:o.dst<;>simp_all [dOk,qay]
          obtain⟨hdo,hfit⟩:=fop_sound hf
          refine(hdo M a hr.heap.rel (fun p hp=>by rw [hr.heap.G];exact hfit.reads p hp) (fun b hb=>?_) (fun y _ z hz=>qau hr.slot hz) _ _ fun v M' st rel hH hv=>?_)
          ·rcases hfit.new with ⟨hF,_⟩ | ⟨hF,_⟩
           ·rw [hF] at hb;cases hb
           ·rw [hF] at hb
            simp only [List.mem_cons,List.not_mem_nil,or_false] at hb
            subst hb
            exact fun hb=>Nat.lt_irrefl _ (hr.heap.A _ hb)
          ·refine⟨M',_,rfl,hs.trans st,?_,h⟩
           rw [←qaJ]
           refine hr.step st hd' hv ?_
           have:=hr.heap.upd rel hH (S.nx+fr.F.length) (fits_dom hr.heap hfit)
           rw [List.append_assoc]
           exact this
         ·exact h.elim
     | false=>
       simp only [qbo,Bool.false_eq_true,if_false] at h ⊢
       split at h
       ·rename_i hd
        have hd':qay S o.dst=true:=by cases hq:o.dst<;>simp_all [dOk,qay]
        refine⟨M,_,rfl,hs,?_,h⟩
        rw [show(⟨S.n,putS o.dst (.tup []) S.s,S.d,S.nx,S.l⟩:qaa)=S.put o.dst (.tup []) S.nx [] by rw [qaJ];rfl]
        exact hr.step (.refl M) hd' (qhr M) hr.heap
       ·exact h.elim
theorem qom {all:Array Oper} {fin:qaa→Prop} {Q:Exit→Act→World→Prop} {M0:Mem} {ro:Option Nat} (hro:RoOk ro (all.toList.all ndOp)) (hQ: ∀M a S,qad M0 M→SRel h0 S M a→fin S→Q .normal a M.w):
  ∀(f:Nat) (t:OT) (listed:Array Bool) (S:qaa) (M:Mem) (a:Act),t.all all f listed=true→qcn P h0 all fin t S→qad M0 M→SRel h0 S M a→wpAnyIn (Wd ro) 0 P .any all Q f listed a M.w:=by
 intro f
 induction f with
 | zero=>
   intro t listed S M a hc h hs hr
   cases t with
   | leaf=>
     rw [OT.all] at hc
     rw [qcn] at h
     exact⟨qfR hc,hQ M a S hs hr h⟩
   | node bs=>rw [OT.all] at hc;cases hc
 | succ f ih=>
   intro t listed S M a hc h hs hr
   cases t with
   | leaf=>
     rw [OT.all] at hc
     rw [qcn] at h
     have e:=qfR hc
     exact⟨fun _=>hQ M a S hs hr h,fun i hi=>by rw [e] at hi;cases hi⟩
   | node bs=>
     rw [OT.all,Bool.and_eq_true,Bool.and_eq_true] at hc
     rw [qcn] at h
     obtain⟨⟨c1,c2⟩,c3⟩:=hc
     have e:=qfR c1
     refine⟨fun hn=>?_,fun i hi=>?_⟩
     ·rw [hn] at e
      cases bs with
      | nil=>simp at c2
      | cons b r=>rw [oidx] at e;cases e
     ·rw [←e] at hi
      obtain⟨t,ht⟩:=oidx_mem hi
      refine wpOpIn_mono ?_ (qpj hro (otrees_mem h _ ht) hs hr)
      rintro a' w' ⟨M',S',rfl,s',r',k'⟩
      exact ih t _ S' M' a' (alls_mem c3 _ ht) k' s' r'
def cutP (h0:IH) (ids:List Nat) (S S':qaa):Prop:=
 S'.n=S.n∧S'.d=S.d∧(S.d= []∨S'.nx=S.nx)∧h0.nx≤S'.nx∧S'.nx≤S.nx∧fslotsIn S h0.m ids S'.nx S'.s∧fblksIn S h0.m ids S'.nx S'.l∧qdl h0.nx S'.l S.l∧gone h0.nx S'.l ids
def unblk:List It→List It
 | .blk _::k=>unblk k
 | k=>k
theorem qg4 {S:qaa} {Q:Exit→qaa→Prop}: ∀ {k:List It},IRun P h0 (unblk k) S Q→IRun P h0 k S Q
 | [],h=>h
 | .blk _::k,h=>qgw (qg4 (k:=k) h)
 | .code _::_,h=>h
 | .ops _ _::_,h=>h
section
variable {K:qaa→Prop} {all:Array Oper} {dst:Option Tmp} {op:Op} {ty:TypeId} {pos:String} {aft:Array Edge} {N:Nat} {s:List (Nat × IV)} {d:List IDef} {nx:Nat} {l:List (Nat × IBlk)} {fin:qaa→Prop} {S:qaa}
theorem qmo {o o':Option Oper} (h:o=o'):oOne P h0 all K o S=oOne P h0 all K o' S:=by rw [h]
theorem qk6 {o:Oper} {x x':Option FR} (h:x=x'):oStep K o N s d nx l x=oStep K o N s d nx l x':=by rw [h]
theorem qkf {o:Oper} {x x':Option Bool} (h:x=x'):qft P h0 all K o N s d nx l x=qft P h0 all K o N s d nx l x':=by rw [h]
attribute [congr] qmo qk6 qkf
attribute [go_sem] cutP
end
end Go.Idl
/-
 Contracts of calls that panic, and their callers on the walk.
-/
namespace Go.Idl
variable {P:Program}
def PPan (P:Program) (f:FuncId) (args:List IV) (R:List (Nat × IBlk)) (Wp:List (Nat × IBlk)→Prop) (ch:List PanicEntry):Prop:=
 ∀h:IH,(∀p∈R,look h.m p.1=some p.2)→qaX P f args h fun r nx l=>r= .pan ch∧nx=h.nx∧Wp l
theorem PPan.weak {f:FuncId} {args args':List IV} {R:List (Nat × IBlk)} {Wp:List (Nat × IBlk)→Prop} {ch:List PanicEntry} (h:PPan P f args' R Wp ch) (hw:wks args args'):PPan P f args R Wp ch:=by
 intro hp hR M vs hM hl hr
 obtain⟨e1,e2⟩:=qbB hw
 refine h hp hR M vs hM (by omega) fun i y v hy hv=>?_
 have hlt:=qab hy
 have hx:=List.getElem?_eq_getElem (show i < args.length by omega)
 exact(hr i _ v hx hv).wk (e2 i _ y hx hy)
def callX (P:Program) (c:FuncId) (zs:List IV) (G:Nat→Option IBlk) (K:List PanicEntry→List (Nat × IBlk)→Prop):Prop:= ∃R Wp ch,PPan P c zs R Wp ch∧qbc G R∧ ∀W,Wp W→K ch W
theorem qkY {c:FuncId} {zs zs':List IV} {G:Nat→Option IBlk} {K:List PanicEntry→List (Nat × IBlk)→Prop} (h:zs=zs'):callX P c zs G K=callX P c zs' G K:=by rw [h]
attribute [congr] qkY
theorem qdH {h0:IH} {Q:Exit→qaa→Prop} {ch:List PanicEntry} {S:qaa}: ∀ {k:List It},Q (.panic ch) S→after P h0 Q k (.panic ch) S
 | [],h=>h
 | .blk _::k,h=>qdH (k:=k) h
 | .code _::k,h=>qdH (k:=k) h
 | .ops _ _::k,h=>qdH (k:=k) h
section
variable {h0:IH} {Q:Exit→qaa→Prop} {k:List It} {all:Array Oper} {r:List Oper} {dst:Option Tmp} {ty:TypeId} {pos:String} {aft:Array Edge} {N:Nat} {s:List (Nat × IV)} {d:List IDef} {nx:Nat} {l:List (Nat × IBlk)}
 {g:Option (Nat × Bool)} {f:Operand} {args:List Operand} {ts:List TypeId}
end
section
variable {h:IH} {Wp:List (Nat × IBlk)→Prop} {ch c:List PanicEntry} {N:Nat} {s:List (Nat × IV)} {d:List IDef} {nx:Nat} {l:List (Nat × IBlk)}
end
end Go.Idl
/-
 Functions that defer a call, on the walk.
-/
namespace Go.Idl
variable {P:Program}
section
variable {fn:Func} {h:IH} {x:IV} {ch:List PanicEntry} {N:Nat} {s:List (Nat × IV)} {d:List IDef} {nx:Nat} {l:List (Nat × IBlk)}
end
section
variable {h0:IH} {Q:Exit→qaa→Prop} {k:List It} {all:Array Oper} {r:List Oper} {dst:Option Tmp} {ty:TypeId} {pos:String} {aft:Array Edge} {N:Nat} {s:List (Nat × IV)} {d:List IDef} {nx:Nat} {l:List (Nat × IBlk)}
 {g:Option (Nat × Bool)} {f:Operand} {args:List Operand} {ts:Array TypeId}
end
end Go.Idl
