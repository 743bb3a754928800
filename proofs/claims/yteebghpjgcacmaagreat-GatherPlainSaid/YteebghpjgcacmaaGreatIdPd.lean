/- Facts that the proofs of this claim lean on. -/
import Derived.Test.YteebghpjgcacmaaGreatIdNl
set_option linter.unusedSimpArgs false
set_option linter.unusedVariables false
/-
 A closed call that gives one new owned block, by computing.
-/
namespace Go.Idl
variable {P:Program}
theorem xnew (n:Nat) (z:FuncId→Bool) {f:FuncId} {args:List IV} {x y:IV} {b nx:Nat} {blk:IBlk} (hz:qbM.goB args=true)
  (hx:xf (xr P z n) z P false f args ⟨0, []⟩=some (.ret y,nx, [(b,blk)])) (hon:only b y=true) (hxy:rn 0 y=x) (hbl:qaT 0 blk) (hmp:blk.isMp=0):PNew P f args x blk:=
 qou (qfp 0 args hz) hbl hmp (qcz (qq2 n).1 hx ⟨b,y,rfl,rfl,hon,by rw [hxy];exact wk_refl x⟩)
theorem xnew0 (n:Nat) (z:FuncId→Bool) (nx:Nat) {f:FuncId} {args:List IV} {x:IV} {blk:IBlk} (hz:qbM.goB args=true)
  (hx:xf (xr P z n) z P false f args ⟨0, []⟩=some (.ret x,nx, [(0,blk)])) (hon:only 0 x=true) (hxy:rn 0 x=x) (hbl:qaT 0 blk) (hmp:blk.isMp=0):PNew P f args x blk:=
 xnew n z hz hx hon hxy hbl hmp
end Go.Idl
/-
 Regions that draw their order, order by order: for those whose operations do not leave each other alone.
-/
namespace Go.Idl
variable {P:Program} {h0:IH}
inductive OT where
 | leaf
 | node (bs:List (Nat × OT))
def oidx:List (Nat × OT)→List Nat
 | []=> []
 | b::r=>b.1::oidx r
def lbeq:List Nat→List Nat→Bool
 | [], []=>true
 | a::r,b::s=>Nat.beq a b && lbeq r s
 | _,_=>false
theorem qgC: ∀ {l k:List Nat},lbeq l k=true→l=k
 | [], [],_=>rfl
 | a::r,b::s,h=>by
   simp only [lbeq,Bool.and_eq_true] at h
   rw [Nat.eq_of_beq_eq_true h.1,qgC h.2]
 | [],_::_,h=>by cases h
 | _::_, [],h=>by cases h
mutual
def OT.all (ops:Array Oper):OT→Nat→Array Bool→Bool
 | .leaf,_,listed=>lbeq (Region.ready .any ops listed) []
 | .node bs,f+1,listed=>lbeq (oidx bs) (Region.ready .any ops listed) && !(bs.isEmpty) && OT.alls ops bs f listed
 | .node _,0,_=>false
def OT.alls (ops:Array Oper):List (Nat × OT)→Nat→Array Bool→Bool
 | [],_,_=>true
 | (i,t)::r,f,listed=>OT.all ops t f (listed.setIfInBounds i true) && OT.alls ops r f listed
end
def oStep (K:qaa→Prop) (o:Oper) (N:Nat) (s:List (Nat × IV)) (d:List IDef) (nx:Nat) (l:List (Nat × IBlk)) (x:Option FR):Prop:=
 qat x (fun fr=>if dOk N o.dst then K ⟨N,putS o.dst fr.x s,d,nx+fr.F.length,fr.W.reverse++l⟩ else False) False
def qgg (P:Program) (h0:IH) (all:Array Oper) (K:qaa→Prop) (o:Oper) (N:Nat) (s:List (Nat × IV)) (d:List IDef) (nx:Nat) (l:List (Nat × IBlk)) (x:Option Bool):Prop:=
 qat x (fun b=>qbu b (oStep K o N s d nx l (fop P (ev s) (look (l++h0.m)) nx all o.dst o.op)) (if dOk N o.dst then K ⟨N,putS o.dst (.tup []) s,d,nx,l⟩ else False)) False
def oOne (P:Program) (h0:IH) (all:Array Oper) (K:qaa→Prop) (o:Option Oper) (S:qaa):Prop:=
 qat o (fun o=>qgg P h0 all K o S.n S.s S.d S.nx S.l (qar all S.s o)) False
mutual
def qbL (P:Program) (h0:IH) (all:Array Oper) (fin:qaa→Prop):OT→qaa→Prop
 | .leaf,S=>fin S
 | .node bs,S=>qbD P h0 all fin bs S
def qbD (P:Program) (h0:IH) (all:Array Oper) (fin:qaa→Prop):List (Nat × OT)→qaa→Prop
 | [],_=>True
 | (i,t)::r,S=>oOne P h0 all (fun S'=>qbL P h0 all fin t S') all[i]? S∧qbD P h0 all fin r S
end
theorem otrees_mem {all:Array Oper} {fin:qaa→Prop}: ∀ {bs:List (Nat × OT)} {S:qaa},qbD P h0 all fin bs S→ ∀b∈bs,oOne P h0 all (fun S'=>qbL P h0 all fin b.2 S') all[b.1]? S
 | (i,t)::r,S,h,b,hb=>by
   rw [qbD] at h
   rcases List.mem_cons.1 hb with rfl | hb
   ·exact h.1
   ·exact otrees_mem h.2 b hb
theorem alls_mem {ops:Array Oper} {f:Nat} {listed:Array Bool}: ∀ {bs:List (Nat × OT)},OT.alls ops bs f listed=true→ ∀b∈bs,OT.all ops b.2 f (listed.setIfInBounds b.1 true)=true
 | (i,t)::r,h,b,hb=>by
   rw [OT.alls,Bool.and_eq_true] at h
   rcases List.mem_cons.1 hb with rfl | hb
   ·exact h.1
   ·exact alls_mem h.2 b hb
theorem oidx_mem: ∀ {bs:List (Nat × OT)} {i:Nat},i∈oidx bs→ ∃t,(i,t)∈bs
 | (j,t)::r,i,h=>by
   rw [oidx] at h
   rcases List.mem_cons.1 h with rfl | h
   ·exact⟨t,List.mem_cons_self ..⟩
   ·obtain⟨t,ht⟩:=oidx_mem h
    exact⟨t,List.mem_cons_of_mem _ ht⟩
theorem qqz {all:Array Oper} {K:qaa→Prop} {i:Nat} {S:qaa} {M0 M:Mem} {a:Act} {Q:Exit→Act→World→Prop} {ro:Option Nat} (hro:RoOk ro (all.toList.all ndOp)) (h:oOne P h0 all K all[i]? S) (hs:qag M0 M) (hr:SRel h0 S M a):
  wpOpIn (Wd ro) 0 P all Q i (fun a' w'=> ∃M' S',M'.w=w'∧qag M0 M'∧SRel h0 S' M' a'∧K S') a M.w:=by
 refine qjU (fun o' ho'=>hro.mem (List.mem_of_getElem? (by simpa using ho'))) ?_
 cases ho:all[i]? with
 | none=>rw [ho] at h;exact h.elim
 | some o=>
   rw [ho] at h
   simp only [oOne,qaj,qgg] at h
   cases hw:qar all S.s o with
   | none=>rw [hw] at h;exact h.elim
   | some b=>
     rw [hw,qaj] at h
     simp only
     rw [qa0 hr hw]
     cases b with
     | true=>
       simp only [qbu,if_true] at h ⊢
       unfold oStep at h
       cases hf:fop P (ev S.s) (look (S.l++h0.m)) S.nx all o.dst o.op with
       | none=>rw [hf] at h;exact h.elim
       | some fr=>
         rw [hf,qaj] at h
         split at h
         ·rename_i hd
          have hd':qaA S o.dst=true:=by cases hq:o.dst<;>simp_all [dOk,qaA]
          obtain⟨hdo,hfit⟩:=fop_sound hf
          refine(hdo M a hr.heap.rel (fun p hp=>by rw [hr.heap.G];exact hfit.reads p hp) (fun b hb=>?_) (fun y _ z hz=>qaz hr.slot hz) _ _ fun v M' st rel hH hv=>?_)
          ·rcases hfit.new with ⟨hF,_⟩ | ⟨hF,_⟩
           ·rw [hF] at hb;cases hb
           ·rw [hF] at hb
            simp only [List.mem_cons,List.not_mem_nil,or_false] at hb
            subst hb
            exact fun hb=>Nat.lt_irrefl _ (hr.heap.A _ hb)
          ·refine⟨M',_,rfl,hs.trans st,?_,h⟩
           rw [←qaG]
           refine hr.step st hd' hv ?_
           have:=hr.heap.upd rel hH (S.nx+fr.F.length) (fits_dom hr.heap hfit)
           rw [List.append_assoc]
           exact this
         ·exact h.elim
     | false=>
       simp only [qbu,Bool.false_eq_true,if_false] at h ⊢
       split at h
       ·rename_i hd
        have hd':qaA S o.dst=true:=by cases hq:o.dst<;>simp_all [dOk,qaA]
        refine⟨M,_,rfl,hs,?_,h⟩
        rw [show(⟨S.n,putS o.dst (.tup []) S.s,S.d,S.nx,S.l⟩:qaa)=S.put o.dst (.tup []) S.nx [] by rw [qaG];rfl]
        exact hr.step (.refl M) hd' (qil M) hr.heap
       ·exact h.elim
theorem qkW {all:Array Oper} {fin:qaa→Prop} {Q:Exit→Act→World→Prop} {M0:Mem} {ro:Option Nat} (hro:RoOk ro (all.toList.all ndOp)) (hQ: ∀M a S,qag M0 M→SRel h0 S M a→fin S→Q .normal a M.w):
  ∀(f:Nat) (t:OT) (listed:Array Bool) (S:qaa) (M:Mem) (a:Act),t.all all f listed=true→qbL P h0 all fin t S→qag M0 M→SRel h0 S M a→wpAnyIn (Wd ro) 0 P .any all Q f listed a M.w:=by
 intro f
 induction f with
 | zero=>
   intro t listed S M a hc h hs hr
   cases t with
   | leaf=>
     rw [OT.all] at hc
     rw [qbL] at h
     exact⟨qgC hc,hQ M a S hs hr h⟩
   | node bs=>rw [OT.all] at hc;cases hc
 | succ f ih=>
   intro t listed S M a hc h hs hr
   cases t with
   | leaf=>
     rw [OT.all] at hc
     rw [qbL] at h
     have e:=qgC hc
     exact⟨fun _=>hQ M a S hs hr h,fun i hi=>by rw [e] at hi;cases hi⟩
   | node bs=>
     rw [OT.all,Bool.and_eq_true,Bool.and_eq_true] at hc
     rw [qbL] at h
     obtain⟨⟨c1,c2⟩,c3⟩:=hc
     have e:=qgC c1
     refine⟨fun hn=>?_,fun i hi=>?_⟩
     ·rw [hn] at e
      cases bs with
      | nil=>simp at c2
      | cons b r=>rw [oidx] at e;cases e
     ·rw [←e] at hi
      obtain⟨t,ht⟩:=oidx_mem hi
      refine wpOpIn_mono ?_ (qqz hro (otrees_mem h _ ht) hs hr)
      rintro a' w' ⟨M',S',rfl,s',r',k'⟩
      exact ih t _ S' M' a' (alls_mem c3 _ ht) k' s' r'
def cutP (h0:IH) (ids:List Nat) (S S':qaa):Prop:=
 S'.n=S.n∧S'.d=S.d∧(S.d= []∨S'.nx=S.nx)∧h0.nx≤S'.nx∧S'.nx≤S.nx∧fslotsIn S h0.m ids S'.nx S'.s∧fblksIn S h0.m ids S'.nx S'.l∧qdW h0.nx S'.l S.l∧gone h0.nx S'.l ids
theorem qoP {ids:List Nat} {S S':qaa} (h:cutP h0 ids S S'):FCut h0 ids S S':=by
 obtain⟨a,b,c,d,e,f,g,i,j⟩:=h
 exact⟨a,b,c,d,e,f,g,i,j⟩
def unblk:List It→List It
 | .blk _::k=>unblk k
 | k=>k
theorem qfv {S:qaa} {Q:Exit→qaa→Prop}: ∀ {k:List It},IRun P h0 (unblk k) S Q→IRun P h0 k S Q
 | [],h=>h
 | .blk _::k,h=>qfs (qfv (k:=k) h)
 | .code _::_,h=>h
 | .ops _ _::_,h=>h
theorem qoa {ops:Array Oper} {id:Nat} {k:List It} {S S':qaa} {Q:Exit→qaa→Prop} (t:OT) (ids:List Nat) (hm:P.follows .mixedOrders=true) (hc:t.all ops ops.size (Array.replicate ops.size false)=true)
  (h:qbL P h0 ops (fun S1=>cutP h0 ids S1 S') t S) (hk:Live (unblk k)) (hv:IRun P h0 (unblk k) S' Q):IRun P h0 (.code (.region id ops true)::k) S Q:=by
 intro M0 hM0 M a hs hr ro hro
 refine wpIn_region_any hm ?_
 have hr':SRel h0 S {M with w:=M.w.drew} a:=⟨⟨hr.heap.rel.drew,hr.heap.A,hr.heap.G⟩,hr.size,fun t x hx=>by obtain⟨v,h1,h2⟩:=hr.slot t x hx;exact⟨v,h1,h2.step (.drew M)⟩,hr.defs.step (.drew M)⟩
 refine qkW (M0:=M0) (ro:=ro) hro (fin:=fun S1=>cutP h0 ids S1 S') (fun M' a' S1 st rel hf=>?_) ops.size t _ S {M with w:=M.w.drew} a hc h (hs.trans (.drew M)) hr'
 have hsub:=(qoP hf).sub
 have:IRun P h0 k S1 Q:=by
  refine qfv (qez hsub ?_ hv)
  generalize unblk k=k at hk
  cases k with
  | nil=>exact hk.elim
  | cons x k=>cases x<;>first | exact hk.elim | trivial
 refine⟨M',S1,rfl,st,rel,this⟩
section
variable {K:qaa→Prop} {all:Array Oper} {dst:Option Tmp} {op:Op} {ty:TypeId} {pos:String} {aft:Array Edge} {N:Nat} {s:List (Nat × IV)} {d:List IDef} {nx:Nat} {l:List (Nat × IBlk)} {fin:qaa→Prop} {S:qaa}
@[go_sem ↓] theorem qrx:qbL P h0 all fin .leaf S=fin S:=by rw [qbL]
@[go_sem ↓] theorem qry {bs:List (Nat × OT)}:qbL P h0 all fin (.node bs) S=qbD P h0 all fin bs S:=by rw [qbL]
@[go_sem ↓] theorem qrz:qbD P h0 all fin [] S=True:=by rw [qbD]
@[go_sem ↓] theorem qrm {i:Nat} {t:OT} {r:List (Nat × OT)}:qbD P h0 all fin ((i,t)::r) S=(oOne P h0 all (fun S'=>qbL P h0 all fin t S') all[i]? S∧qbD P h0 all fin r S):=by rw [qbD]
theorem qni {o o':Option Oper} (h:o=o'):oOne P h0 all K o S=oOne P h0 all K o' S:=by rw [h]
@[go_sem ↓] theorem qrw:oOne P h0 all K (some ⟨dst,op,ty,pos,aft,none⟩) ⟨N,s,d,nx,l⟩=oStep K ⟨dst,op,ty,pos,aft,none⟩ N s d nx l (fop P (ev s) (look (l++h0.m)) nx all dst op):=(rfl)
@[go_sem ↓] theorem oStep_put {g:Option (Nat × Bool)} {t:Tmp} {x:IV} {R W:List (Nat × IBlk)} {F:List Nat}:
  oStep K ⟨some t,op,ty,pos,aft,g⟩ N s d nx l (some ⟨x,R,F,W⟩)=if t < N then K ⟨N,(t,x)::s,d,nx+F.length,W.reverse++l⟩ else False:=by
  simp [oStep,qat,dOk,putS]
@[go_sem ↓] theorem oStep_nil {g:Option (Nat × Bool)} {x:IV} {R W:List (Nat × IBlk)} {F:List Nat}:
  oStep K ⟨none,op,ty,pos,aft,g⟩ N s d nx l (some ⟨x,R,F,W⟩)=K ⟨N,s,d,nx+F.length,W.reverse++l⟩:=by
  simp [oStep,qat,dOk,putS]
theorem qlY {o:Oper} {x x':Option FR} (h:x=x'):oStep K o N s d nx l x=oStep K o N s d nx l x':=by rw [h]
theorem qkT {o:Oper} {x x':Option Bool} (h:x=x'):qgg P h0 all K o N s d nx l x=qgg P h0 all K o N s d nx l x':=by rw [h]
attribute [congr] qni qlY qkT
attribute [go_sem] cutP
end
end Go.Idl
/-
 Contracts of calls that panic, and their callers on the walk.
-/
namespace Go.Idl
variable {P:Program}
def PPan (P:Program) (f:FuncId) (args:List IV) (R:List (Nat × IBlk)) (Wp:List (Nat × IBlk)→Prop) (ch:List PanicEntry):Prop:=
 ∀h:IH,(∀p∈R,look h.m p.1=some p.2)→qa2 P f args h fun r nx l=>r= .pan ch∧nx=h.nx∧Wp l
theorem PPan.weak {f:FuncId} {args args':List IV} {R:List (Nat × IBlk)} {Wp:List (Nat × IBlk)→Prop} {ch:List PanicEntry} (h:PPan P f args' R Wp ch) (hw:wks args args'):PPan P f args R Wp ch:=by
 intro hp hR M vs hM hl hr
 obtain⟨e1,e2⟩:=qbI hw
 refine h hp hR M vs hM (by omega) fun i y v hy hv=>?_
 have hlt:=qab hy
 have hx:=List.getElem?_eq_getElem (show i < args.length by omega)
 exact(hr i _ v hx hv).wk (e2 i _ y hx hy)
def callX (P:Program) (c:FuncId) (zs:List IV) (G:Nat→Option IBlk) (K:List PanicEntry→List (Nat × IBlk)→Prop):Prop:= ∃R Wp ch,PPan P c zs R Wp ch∧qbd G R∧ ∀W,Wp W→K ch W
theorem qlO {c:FuncId} {zs zs':List IV} {G:Nat→Option IBlk} {K:List PanicEntry→List (Nat × IBlk)→Prop} (h:zs=zs'):callX P c zs G K=callX P c zs' G K:=by rw [h]
attribute [congr] qlO
theorem qcY {h0:IH} {Q:Exit→qaa→Prop} {ch:List PanicEntry} {S:qaa}: ∀ {k:List It},Q (.panic ch) S→after P h0 Q k (.panic ch) S
 | [],h=>h
 | .blk _::k,h=>qcY (k:=k) h
 | .code _::k,h=>qcY (k:=k) h
 | .ops _ _::k,h=>qcY (k:=k) h
section
variable {h0:IH} {Q:Exit→qaa→Prop} {k:List It} {all:Array Oper} {r:List Oper} {dst:Option Tmp} {ty:TypeId} {pos:String} {aft:Array Edge} {N:Nat} {s:List (Nat × IV)} {d:List IDef} {nx:Nat} {l:List (Nat × IBlk)}
 {g:Option (Nat × Bool)} {f:Operand} {args:List Operand} {ts:List TypeId}
theorem qoL {x:Operand} {t:TypeId} {v:Value} (hw:qar all s ⟨dst, .panic x,ty,pos,aft,g⟩=some true) (hx:ev s x=some (.p (.sc (.iface t v)))) (h:Q (.panic [{v:= .iface t v,recovered:=false}]) ⟨N,s,d,nx,l⟩):
  IRun P h0 (.ops all (⟨dst, .panic x,ty,pos,aft,g⟩::r)::k) ⟨N,s,d,nx,l⟩ Q:=
 iops_panic (S:=⟨N,s,d,nx,l⟩) rfl hw hx (qcY h)
end
section
variable {h:IH} {Wp:List (Nat × IBlk)→Prop} {ch c:List PanicEntry} {N:Nat} {s:List (Nat × IV)} {d:List IDef} {nx:Nat} {l:List (Nat × IBlk)}
end
end Go.Idl
/-
 Functions that defer a call, on the walk.
-/
namespace Go.Idl
variable {P:Program}
def RetX (h:IH) (x:IV) (r:IEnd) (nx:Nat) (l:List (Nat × IBlk)):Prop:= ∃y,r= .ret y∧wk y x∧nx=h.nx∧l= []
theorem qdU {fn:Func} {h:IH} {x:IV} {N:Nat} {s:List (Nat × IV)} {d:List IDef} {nx:Nat} {l:List (Nat × IBlk)} (hnx:h.nx≤nx) (hk:qbK h.nx [] (l.map (·.1))) (hx:endP P fn h (fun y=>wk y x) ⟨N,s, [],nx,l⟩):
  qbc P fn h (RetX h x) ⟨N,s,d,nx,l⟩ [] .ret:=by
 unfold endP at hx
 cases hi:ires P ⟨N,s, [],nx,l⟩ (l++h.m) fn.results.toList with
 | none=>simp only [hi] at hx;exact hx.elim
 | some z=>
   simp only [hi,qaj] at hx
   cases hf:frz (look (l++h.m)) z with
   | none=>rw [hf] at hx;exact hx.elim
   | some y=>
     rw [hf,qaj] at hx
     exact qh1 (S:=⟨N,s,d,nx,l⟩) hi (leave_eff (S:=⟨N,s, [],nx,l⟩) (W:= []) rfl hnx hk trivial trivial hx.1 hf) ⟨y,rfl,hx.2,rfl,rfl⟩
def EndD (P:Program) (fn:Func) (h:IH) (x:IV):Exit→qaa→Prop
 | .normal,S=>qbc P fn h (RetX h x) S S.d .ret
 | .ret,S=>qbc P fn h (RetX h x) S S.d .ret
 | .panic ch,S=>qbc P fn h (RetX h x) S S.d (.pan ch)
 | _,_=>False
section
variable {fn:Func} {h:IH} {x:IV} {ch:List PanicEntry} {N:Nat} {s:List (Nat × IV)} {d:List IDef} {nx:Nat} {l:List (Nat × IBlk)}
@[go_sem ↓] theorem EndD_ret:EndD P fn h x .ret ⟨N,s,d,nx,l⟩=qbc P fn h (RetX h x) ⟨N,s,d,nx,l⟩ d .ret:=(rfl)
@[go_sem ↓] theorem qrp:EndD P fn h x (.panic ch) ⟨N,s,d,nx,l⟩=qbc P fn h (RetX h x) ⟨N,s,d,nx,l⟩ d (.pan ch):=(rfl)
end
section
variable {h0:IH} {Q:Exit→qaa→Prop} {k:List It} {all:Array Oper} {r:List Oper} {dst:Option Tmp} {ty:TypeId} {pos:String} {aft:Array Edge} {N:Nat} {s:List (Nat × IV)} {d:List IDef} {nx:Nat} {l:List (Nat × IBlk)}
 {g:Option (Nat × Bool)} {f:Operand} {args:List Operand} {ts:Array TypeId}
theorem qki (n:Nat) {x:IDef} (hw:qar all s ⟨dst, .defer {callee:= .value f,args:=⟨args⟩,argTypes:=ts},ty,pos,aft,g⟩=some true) (hc:qf5 (ev s) f args=some x) (hd:dOk N dst=true)
  (h:vc P h0 Q n (.ops all r::k) ⟨N,putS dst (.tup []) s,x::d,nx,l⟩):
  IRun P h0 (.ops all (⟨dst, .defer {callee:= .value f,args:=⟨args⟩,argTypes:=ts},ty,pos,aft,g⟩::r)::k) ⟨N,s,d,nx,l⟩ Q:=
 qhY (S:=⟨N,s,d,nx,l⟩) rfl hw hc (by cases dst<;>simp_all [dOk,qaA]) (by
  simp only [qaG]
  exact vc_sound Q n _ _ h)
end
end Go.Idl
