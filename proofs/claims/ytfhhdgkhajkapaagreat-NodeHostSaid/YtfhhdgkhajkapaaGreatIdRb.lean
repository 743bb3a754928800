/- Facts leant on. -/
import Derived.Test.YtfhhdgkhajkapaaGreatIdNl
set_option linter.all false
open List renaming mem_of_getElem?->Ka,getElem?_eq_getElem->Kb,getElem_mem->Kc,map_congr_left->Kd,getElem?_map->Ke,range'->Kf,map_id'->Kg,mem_map_of_mem->Kh,length_map->Ki,mem_singleton->Kj
open Nat renaming lt_or_ge->Kk,le_refl->Kl,lt_of_lt_of_le->Km
open Bool renaming and_eq_true->Kn
open Option renaming some->U
open Bool renaming true->Y,false->Z
namespace Go.Idl
variable{P:Program}
end Go.Idl
namespace Go.Idl
variable{P:Program}{h0:IH}
inductive OT where
 | leaf
 | node (bs:List (Nat × OT))
def oidx:List (Nat × OT)->List Nat
 | []=> []
 | b::r=>b.1::oidx r
def lbeq:List Nat->List Nat->Bool
 | [], []=>Y
 | a::r,b::s=>Nat.beq a b && lbeq r s
 | _,_=>Z
def qgY: ∀ {l k},lbeq l k=Y->l=k
 | [], [],_=>rfl
 | a::r,b::s,h=>by
   simp only[lbeq,Kn] at h;rw[Nat.eq_of_beq_eq_true h.1,qgY h.2]
 | [],_::_,h=>by cases h
 | _::_, [],h=>by cases h
mutual
def OT.all(ops:Array Oper):OT->Nat->Array Bool->Bool
 | .leaf,_,listed=>lbeq (Region.ready .any ops listed) []
 | .node bs,f+1,listed=>lbeq (oidx bs) (Region.ready .any ops listed) && !(bs.isEmpty) && OT.alls ops bs f listed
 | .node _,0,_=>Z
def OT.alls(ops:Array Oper):List (Nat × OT)->Nat->Array Bool->Bool
 | [],_,_=>Y
 | (i,t)::r,f,listed=>OT.all ops t f (listed.setIfInBounds i Y) && OT.alls ops r f listed
end
def qg4(K:qab->Prop)(o:Oper)(N:Nat)(s:List (Nat × IV))(d:List IDef)(nx:Nat)(l:List (Nat × IBlk))(x:Option FR):Prop:=
 qas x (λf=>if dOk N o.dst then K ⟨N,putS o.dst f.x s,d,nx+f.F.length,f.W.reverse++l⟩ else False) False
def qgw(P:Program)(h0:IH)(a:Array Oper)(K:qab->Prop)(o:Oper)(N:Nat)(s:List (Nat × IV))(d:List IDef)(nx:Nat)(l:List (Nat × IBlk))(x:Option Bool):Prop:=
 qas x (λb=>qbD b (qg4 K o N s d nx l (fop P (ev s) (look (l++h0.m)) nx a o.dst o.op)) (if dOk N o.dst then K ⟨N,putS o.dst (.tup []) s,d,nx,l⟩ else False)) False
def oOne(P:Program)(h0:IH)(a:Array Oper)(K:qab->Prop)(o:Option Oper)(S:qab):Prop:=
 qas o (λo=>qgw P h0 a K o S.n S.s S.d S.nx S.l (qam a S.s o)) False
mutual
def qcS(P:Program)(h0:IH)(all:Array Oper)(fin:qab->Prop):OT->qab->Prop
 | .leaf,S=>fin S
 | .node bs,S=>qbN P h0 all fin bs S
def qbN(P:Program)(h0:IH)(all:Array Oper)(fin:qab->Prop):List (Nat × OT)->qab->Prop
 | [],_=>True
 | (i,t)::r,S=>oOne P h0 all (λS'=>qcS P h0 all fin t S') all[i]? S/\qbN P h0 all fin r S
end
def otrees_mem{a fin}: ∀ {bs S},qbN P h0 a fin bs S-> ∀b∈bs,oOne P h0 a (λS'=>qcS P h0 a fin b.2 S') a[b.1]? S
 | (i,t)::r,S,h,b,c=>by
   rw[qbN] at h;rcases List.mem_cons.1 c with rfl | c
   .grind
   .exact otrees_mem h.2 b c
def alls_mem{o f l}: ∀ {bs},OT.alls o bs f l=Y-> ∀b∈bs,OT.all o b.2 f (l.setIfInBounds b.1 Y)=Y
 | (i,t)::r,h,b,a=>by
   rw[OT.alls,Kn] at h;rcases List.mem_cons.1 a with rfl | a
   .grind
   .exact alls_mem h.2 b a
def oidx_mem: ∀ {bs i},i∈oidx bs-> ∃t,(i,t)∈bs
 | (j,t)::r,i,h=>by
   rcases List.mem_cons.1 h with rfl | h
   .simp
   .obtain⟨t,a⟩:=oidx_mem h
    grind
def qsh{c:Array Oper}{K:qab->Prop}{i:Nat}{S:qab}{M0 M:Mem}{a:Act}{Q:Exit->Act->World->Prop}{ro:Option Nat}(j:RoOk ro (c.toList.all ndOp))(h:oOne P h0 c K c[i]? S)(s:qaf M0 M)(e:SRel h0 S M a):
  wpOpIn (Wd ro) 0 P c Q i (λw w'=> ∃M' S',M'.w=w'/\qaf M0 M'/\SRel h0 S' M' w/\K S') a M.w:=by
 refine qkm (λG k=>j.mem (Ka (by simpa using k))) ?_;cases t:c[i]? with
 | none=>rw[t] at h;exact h.elim
 | some o=>
   rw[t] at h;simp only[oOne,qaQ,qgw] at h;cases l:qam c S.s o with
   | none=>rw[l] at h;exact h.elim
   | some b=>
     rw[l,qaQ] at h;simp only;rw[qbd e l];cases b with
     | true=>
       simp only[qbD,if_true] at h ⊢;unfold qg4 at h;cases m:fop P (ev S.s) (look (S.l++h0.m)) S.nx c o.dst o.op with
       | none=>rw[m] at h;exact h.elim
       | some x=>
         rw[m,qaQ] at h;split at h
         .rename_i A;have f:qaC S o.dst=Y:=by cases B:o.dst<;>simp_all[dOk,qaC]
          obtain⟨n,d⟩:=qet m;refine(n M a e.heap.rel (λp C=>by rw[e.heap.G];exact d.reads p C) (λb g=>?_) (λy _ z D=>qaF e.slot D) _ _ λv M' u r E F=>?_)
          .rcases d.new with ⟨q,_⟩ | ⟨q,_⟩
           .rw[q] at g;cases g
           .rw[q] at g;simp only[List.mem_cons,List.not_mem_nil,or_false] at g;subst g;exact λg=>Nat.lt_irrefl _ (e.heap.A _ g)
          .refine⟨M',_,rfl,s.trans u,?_,h⟩;rw[<-qa6];refine e.step u f F ?_;have:=e.heap.upd r E (S.nx+x.F.length) (qhC e.heap d);rw[List.append_assoc];exact this
         .exact h.elim
     | false=>
       simp only[qbD,Bool.false_eq_true,if_false] at h ⊢;split at h
       .rename_i A;have f:qaC S o.dst=Y:=by cases B:o.dst<;>simp_all[dOk,qaC]
        refine⟨M,_,rfl,s,?_,h⟩;rw[show(⟨S.n,putS o.dst (.tup []) S.s,S.d,S.nx,S.l⟩:qab)=S.put o.dst (.tup []) S.nx [] by rw[qa6];rfl];exact e.step (.refl M) f (qiE M) e.heap
       .exact h.elim
def qrg{c fin Q M0 ro}(m:RoOk ro (c.toList.all ndOp))(n: ∀M a S,qaf M0 M->SRel h0 S M a->fin S->Q .normal a M.w):
  ∀(f t l S M a),t.all c f l=Y->qcS P h0 c fin t S->qaf M0 M->SRel h0 S M a->wpAnyIn (Wd ro) 0 P .any c Q f l a M.w:=by
 intro f;induction f with
 | zero=>
   intro t l S M a d h j k;cases t with
   | leaf=>
     exact⟨qgY d,n M a S j k h⟩
   | node o=>rw[OT.all] at d;grind
 | succ f q=>
   intro t l S M a d h j k;cases t with
   | leaf=>
     have e:=qgY d;exact⟨λ_=>n M a S j k h,λi g=>by grind⟩
   | node o=>
     rw[OT.all,Kn,Kn] at d;obtain⟨⟨s,u⟩,v⟩:=d;have e:=qgY s;refine⟨λw=>?_,λi g=>?_⟩
     .cases o<;>simp_all[oidx]
     .rw[<-e] at g;obtain⟨t,p⟩:=oidx_mem g;refine wpOpIn_mono ?_ (qsh m (otrees_mem h _ p) j k);rintro x D ⟨y,z,rfl,A,B,C⟩;exact q t _ z y x (alls_mem v _ p) C A B
def cutP(h0:IH)(ids:List Nat)(S S':qab):Prop:=
 S'.n=S.n/\S'.d=S.d/\(S.d= []\/S'.nx=S.nx)/\h0.nx<=S'.nx/\S'.nx<=S.nx/\fslotsIn S h0.m ids S'.nx S'.s/\fblksIn S h0.m ids S'.nx S'.l/\qdX h0.nx S'.l S.l/\gone h0.nx S'.l ids
def unblk:List It->List It
 | .blk _::k=>unblk k
 | k=>k
def qie{S Q}: ∀ {k},IRun P h0 (unblk k) S Q->IRun P h0 k S Q
 | [],h=>h
 | .blk _::k,h=>qhG (qie (k:=k) h)
 | .code _::_,h=>h
 | .ops _ _::_,h=>h
section
variable{K:qab->Prop}{all:Array Oper}{dst:Option Tmp}{op:Op}{ty:TypeId}{pos:String}{aft:Array Edge}{N:Nat}{s:List (Nat × IV)}{d:List IDef}{nx:Nat}{l:List (Nat × IBlk)}{fin:qab->Prop}{S:qab}
@[go_sem ↓] theorem qs9:qcS P h0 all fin .leaf S=fin S:=wv
@[go_sem ↓] theorem qta{bs}:qcS P h0 all fin (.node bs) S=qbN P h0 all fin bs S:=wv
@[go_sem ↓] theorem qtb:qbN P h0 all fin [] S=True:=wv
@[go_sem ↓] theorem qs0{i t r}:qbN P h0 all fin ((i,t)::r) S=(oOne P h0 all (λS'=>qcS P h0 all fin t S') all[i]? S/\qbN P h0 all fin r S):=wv
theorem qoG{o o'}(h:o=o'):oOne P h0 all K o S=oOne P h0 all K o' S:=wy
@[go_sem ↓] theorem oStep_nil{g x R W F}:
  qg4 K ⟨none,op,ty,pos,aft,g⟩ N s d nx l (U ⟨x,R,F,W⟩)=K ⟨N,s,d,nx+F.length,W.reverse++l⟩:=wv
theorem qm0{o x x'}(h:x=x'):qg4 K o N s d nx l x=qg4 K o N s d nx l x':=wy
theorem qlL{o x x'}(h:x=x'):qgw P h0 all K o N s d nx l x=qgw P h0 all K o N s d nx l x':=wy
attribute [congr] qoG qm0 qlL
attribute [go_sem] cutP
end
end Go.Idl
namespace Go.Idl
variable{P:Program}
def PPan(P:Program)(f:FuncId)(args:List IV)(R:List (Nat × IBlk))(W:List (Nat × IBlk)->Prop)(c:List PanicEntry):Prop:=
 ∀h:IH,(∀p∈R,look h.m p.1=U p.2)->qa5 P f args h λr n l=>r= .pan c/\n=h.nx/\W l
def callX(P:Program)(c:FuncId)(zs:List IV)(G:Nat->Option IBlk)(K:List PanicEntry->List (Nat × IBlk)->Prop):Prop:= ∃R a b,PPan P c zs R a b/\qbv G R/\ ∀W,a W->K b W
def qmS{c zs z G K}(h:zs=z):callX P c zs G K=callX P c z G K:=wy
attribute [congr] qmS
def qc2{h0 Q c S}: ∀ {k},Q (.panic c) S->after P h0 Q k (.panic c) S
 | [],h=>h
 | .blk _::k,h=>qc2 (k:=k) h
 | .code _::k,h=>qc2 (k:=k) h
 | .ops _ _::k,h=>qc2 (k:=k) h
section
variable{h0:IH}{Q:Exit->qab->Prop}{k:List It}{all:Array Oper}{r:List Oper}{dst:Option Tmp}{ty:TypeId}{pos:String}{aft:Array Edge}{N:Nat}{s:List (Nat × IV)}{d:List IDef}{nx:Nat}{l:List (Nat × IBlk)}
 {g:Option (Nat × Bool)} {f:Operand} {args:List Operand} {ts:List TypeId}
theorem qk9{x t v}(a:qam all s ⟨dst, .panic x,ty,pos,aft,g⟩=U Y)(b:ev s x=U (.p (.sc (.iface t v))))(h:Q (.panic [{v:= .iface t v,recovered:=false}]) ⟨N,s,d,nx,l⟩):
  IRun P h0 (.ops all (⟨dst, .panic x,ty,pos,aft,g⟩::r)::k) ⟨N,s,d,nx,l⟩ Q:=
 iops_panic (S:=⟨N,s,d,nx,l⟩) rfl a b (qc2 h)
end
section
variable{h:IH}{Wp:List (Nat × IBlk)->Prop}{ch c:List PanicEntry}{N:Nat}{s:List (Nat × IV)}{d:List IDef}{nx:Nat}{l:List (Nat × IBlk)}
end
end Go.Idl
namespace Go.Idl
variable{P:Program}
section
variable{fn:Func}{h:IH}{x:IV}{ch:List PanicEntry}{N:Nat}{s:List (Nat × IV)}{d:List IDef}{nx:Nat}{l:List (Nat × IBlk)}
end
section
variable{h0:IH}{Q:Exit->qab->Prop}{k:List It}{all:Array Oper}{r:List Oper}{dst:Option Tmp}{ty:TypeId}{pos:String}{aft:Array Edge}{N:Nat}{s:List (Nat × IV)}{d:List IDef}{nx:Nat}{l:List (Nat × IBlk)}
 {g:Option (Nat × Bool)} {f:Operand} {args:List Operand} {ts:Array TypeId}
theorem qea(n){x}(a:qam all s ⟨dst, .defer {callee:= .value f,args:=⟨args⟩,argTypes:=ts},ty,pos,aft,g⟩=U Y)(b:qgk (ev s) f args=U x)(c:dOk N dst=Y)
  (h:vc P h0 Q n (.ops all r::k) ⟨N,putS dst (.tup []) s,x::d,nx,l⟩):
  IRun P h0 (.ops all (⟨dst, .defer {callee:= .value f,args:=⟨args⟩,argTypes:=ts},ty,pos,aft,g⟩::r)::k) ⟨N,s,d,nx,l⟩ Q:=
 iops_defer (S:=⟨N,s,d,nx,l⟩) rfl a b wq (by
  exact vc_sound Q n _ _ h)
end
end Go.Idl
namespace Go.Idl
variable{P:Program}
mutual
def rnm(ρ:Nat->Nat):IV->IV
 | .p x=> .p x
 | .ref b g o l=> .ref (ρ b) g o l
 | .ptr b g r j=> .ptr (ρ b) g r j
 | .mp b=> .mp (ρ b)
 | .clo f x c=> .clo f (rnms ρ x) (rnms ρ c)
 | .agg cs=> .agg (rnms ρ cs)
 | .tup cs=> .tup (rnms ρ cs)
 | .dead=> .dead
def rnms(ρ:Nat->Nat):List IV->List IV
 | []=> []
 | x::r=>rnm ρ x::rnms ρ r
end
def rnB(ρ:Nat->Nat):IBlk->IBlk
 | .arr s g r=> .arr s g (r.map (rnms ρ))
 | .mp a=> .mp (a.map λe=>(e.1,rnm ρ e.2))
 | .ob k v=> .ob k (rnms ρ v)
def rnL(ρ:Nat->Nat)(l:List (Nat × IBlk)):List (Nat × IBlk):=l.map λp=>(ρ p.1,rnB ρ p.2)
def rnE(ρ:Nat->Nat):IEnd->IEnd
 | .ret x=> .ret (rnm ρ x)
 | .pan c=> .pan c
def qcZ{ρ}: ∀ {l} {i:Nat} {y},(rnms ρ l)[i]? =U y-> ∃x,l[i]? =U x/\y=rnm ρ x
 | [],i,y,h=>by simp[rnms] at h
 | x::r,0,y,h=>by simp_all[rnms]
 | x::r,i+1,y,h=>by obtain⟨z,a,b⟩:=qcZ (l:=r) (by simpa[rnms] using h);grind
def qbK{ρ}: ∀ {l} {i:Nat} {x},l[i]? =U x->(rnms ρ l)[i]? =U (rnm ρ x)
 | [],i,y,h=>by grind
 | x::r,0,y,h=>by cases h;rfl
 | x::r,i+1,y,h=>by simpa[rnms] using qbK (l:=r) wg
theorem qaG(ρ): ∀l:List IV,(rnms ρ l).length=l.length
 | []=>rfl
 | x::r=>by simp[rnms,qaG ρ r]
def qe1(ρ b):(rnB ρ b).sz=b.sz:=by cases b<;>rfl
def rnB_gen(ρ b):(rnB ρ b).gen=b.gen:=by cases b<;>rfl
def rnB_len(ρ b):(rnB ρ b).len=b.len:=by cases b<;>simp[rnB,IBlk.len]
def qdu(ρ b):(rnB ρ b).isMp=b.isMp:=by
 cases b with
 | ob k v=>cases k<;>rfl
 | _=>rfl
def qgH{ρ σ K}(h: ∀i,K i->ρ i=σ i)(x):qbh K x->rnm ρ x=rnm σ x:=by
 apply IV.rec (motive_1:=λx=>qbh K x->rnm ρ x=rnm σ x) (motive_2:=λl=>qaK K l->rnms ρ l=rnms σ l)
 .intro x _;rfl
 .intro b g o m a;simp[rnm,h b a]
 .intro b g r j a;simp[rnm,h b a]
 .intro b a;simp[rnm,h b a]
 .intro p f c d e a;simp[rnm,d a.1,e a.2]
 .intro n k a;simp[rnm,k a]
 .intro n k a;simp[rnm,k a]
 .intro _;rfl
 .intro _;rfl
 .intro x l d e a;simp[rnms,d a.1,e a.2]
def qdY{ρ σ K}(h: ∀i,K i->ρ i=σ i): ∀ {l},qaK K l->rnms ρ l=rnms σ l
 | [],_=>rfl
 | x::r,a=>by simp[rnms,qgH h x a.1,qdY h a.2]
def qjG{ρ σ K}(h: ∀i,K i->ρ i=σ i){b}(a:qby K b):rnB ρ b=rnB σ b:=by
 cases b with
 | arr s g c=>simp only[rnB];congr 1;exact Kd λr d=>qdY h (a r d)
 | mp j=>simp only[rnB];congr 1;exact Kd λe f=>by rw[qgH h _ (a e f)]
 | ob k v=>simp only[rnB];congr 1;exact qdY h a
def qiz(x):rnm id x=x:=by apply IV.rec (motive_1:=λx=>rnm id x=x) (motive_2:=λl=>rnms id l=l)<;>simp_all[rnm,rnms]
def qg9: ∀l:List IV,rnms id l=l
 | []=>rfl
 | x::r=>by simp[rnms,qiz,qg9 r]
def qiy(b):rnB id b=b:=by
 cases b with
 | arr s g a=>simp[rnB];exact(Kd λr _=>qg9 r).trans (Kg _)
 | mp c=>simp_all[rnB,qiz]
 | ob k v=>simp[rnB];exact qg9 v
structure Ren(K:Nat->Prop)(σ ρ:Nat->Nat)(M M':Mem):Prop where
 w:M'.w=M.w
 A: ∀i,K i->M.H.A (σ i)->M'.H.A (ρ i)
 G: ∀i,K i-> ∀blk',M'.H.G (ρ i)=U blk'-> ∃blk,M.H.G (σ i)=U blk/\blk'.sz=blk.sz/\blk'.gen=blk.gen/\blk'.len=blk.len/\blk'.isMp=blk.isMp
 β: ∀i,K i->M'.β (ρ i)=M.β (σ i)
 own: ∀c,M'.own c->M.own c
def VRel.ren{K:Nat->Prop}{σ ρ:Nat->Nat}{M M':Mem}(a:Ren K σ ρ M M'){x:IV}{v:Value}(h:VRel M x v): ∀y,x=rnm σ y->qbh K y->VRel M' (rnm ρ y) v:=by
 induction h with
 | p x v h=>
   intro y e c;cases y<;>simp only[rnm,reduceCtorEq,IV.p.injEq] at e
   subst e;exact .p _ v (by rw[a.w];exact h.own' a.own)
 | ref b g D E v n f h=>
   intro y e c;cases y<;>simp only[rnm,reduceCtorEq,IV.ref.injEq] at e
   obtain⟨rfl,rfl,rfl,rfl⟩:=e;refine .ref _ _ _ _ v (a.A _ c n) f λd o=>?_;obtain⟨k,q,s,t,u,w⟩:=a.G _ c d o;rw[a.β _ c,s,t,u];exact h k q
 | ptr b g r j v n f h=>
   intro y e c;cases y<;>simp only[rnm,reduceCtorEq,IV.ptr.injEq] at e
   obtain⟨rfl,rfl,rfl,rfl⟩:=e;refine .ptr _ _ _ _ v (a.A _ c n) f λd o=>?_;obtain⟨k,q,s,t,u,w⟩:=a.G _ c d o;rw[a.β _ c,s,t];exact h k q
 | mp b v n f h=>
   intro y e c;cases y<;>simp only[rnm,reduceCtorEq,IV.mp.injEq] at e
   subst e;refine .mp _ v (a.A _ c n) f λd o=>?_;obtain⟨k,q,s,t,u,w⟩:=a.G _ c d o;rw[a.β _ c,w];exact h k q
 | clo R first F G vc H I S T L N=>
   intro y e c;cases y<;>simp only[rnm,reduceCtorEq,IV.clo.injEq] at e
   obtain⟨rfl,rfl,rfl⟩:=e;refine .clo _ _ _ G vc (by rw[H,qaG,qaG]) (by rw[I,qaG,qaG]) (λi x v m f=>?_) λi x v m f=>?_
   .obtain⟨z,l,rfl⟩:=qcZ m;exact L i _ v (qbK l) f z rfl (qaR c.1 l)
   .obtain⟨z,l,rfl⟩:=qcZ m;exact N i _ v (qbK l) f z rfl (qaR c.2 l)
 | agg O A B Q r C=>
   intro y e c;cases y<;>simp only[rnm,reduceCtorEq,IV.agg.injEq] at e
   subst e;refine .agg _ A (by rw[B,qaG,qaG]) Q λi x v m f=>?_;obtain⟨z,l,rfl⟩:=qcZ m;exact C i _ v (qbK l) f z rfl (qaR c l)
 | tup O A B r C=>
   intro y e c;cases y<;>simp only[rnm,reduceCtorEq,IV.tup.injEq] at e
   subst e;refine .tup _ A (by rw[B,qaG,qaG]) λi x v m f=>?_;obtain⟨z,l,rfl⟩:=qcZ m;exact C i _ v (qbK l) f z rfl (qaR c l)
 | dead v=>
   intro y e c;cases y<;>simp only[rnm,reduceCtorEq] at e
   exact .dead v
def BRel.ren{K:Nat->Prop}{σ ρ:Nat->Nat}{M M':Mem}(a:Ren K σ ρ M M'){i:Nat}(A:K i){f:IBlk}(h:BRel M (σ i) (rnB σ f))(l:qby K f):BRel M' (ρ i) (rnB ρ f):=by
 cases f with
 | arr sz g s=>
   obtain⟨G,H,I⟩:=h;refine⟨λB t=>?_,λL=>?_,λc o n p=>?_⟩
   .obtain⟨r,d,rfl⟩:=List.mem_map.1 t;have:=G _ (Kh d);rw[qaG] at this ⊢;exact this
   .have:=H (by rw[<-a.β i A];exact L);rw[List.map_eq_nil_iff] at this ⊢;exact this
   .rw[a.β i A] at p;obtain⟨N,O,u,q,w,C,Q⟩:=I c o n p;rw[Ki] at q;refine⟨N,O,by rw[a.w];exact u,by rw[Ki];exact q,w,C,λk B j x b D=>?_⟩;rw[Ke] at b;cases d:s[k]? with
    | none=>rw[d] at b;cases b
    | some r=>
      rw[d] at b;simp only[Option.map_some,Option.some.injEq] at b;subst b;obtain⟨z,y,rfl⟩:=qcZ D;obtain⟨v,R,S,T⟩:=Q k (rnms σ r) j (rnm σ z) (by rw[Ke,d];rfl) (qbK y);exact⟨v,R,S,T.ren a z rfl (qaR (l r (Ka d)) y)⟩
 | mp W=>
   obtain⟨c,o,n,p,E,m,u,q,w⟩:=h;refine⟨c,o,n,by rw[a.β i A];exact p,E,m,by rw[a.w];exact u,by simpa using q,λk X x b=>?_⟩;rw[Ke] at b;cases d:W[k]? with
   | none=>rw[d] at b;cases b
   | some F=>
     rw[d] at b;simp only[Option.map_some,Option.some.injEq,Prod.mk.injEq] at b;obtain⟨rfl,rfl⟩:=b;obtain⟨e,e1,e2,e3⟩:=w k F.1 (rnm σ F.2) (by rw[Ke,d];rfl);exact⟨e,e1,e2,e3.ren a _ rfl (l F (Ka d))⟩
 | ob k vs=>
   obtain⟨c,o,n,p,ob,us,u,q,w,C⟩:=h;refine⟨c,o,n,by rw[a.β i A];exact p,ob,us,by rw[a.w];exact u,q,by rw[w,qaG,qaG],λj x v D hv=>?_⟩;obtain⟨z,y,rfl⟩:=qcZ D;exact(C j _ v (qbK y) hv).ren a z rfl (qaR l y)
def qbU.ren{K σ ρ M M'}(a:Ren K σ ρ M M'){r e}(h:qbU M (rnE σ r) e)(b: ∀x,r= .ret x->qbh K x):qbU M' (rnE ρ r) e:=by
 cases r with
 | ret x=>obtain⟨v,d,f⟩:=h;exact⟨v,d,f.ren a x rfl (b x rfl)⟩
 | pan c=>exact h
def qak:Nat->List IBlk->List (Nat × IBlk)
 | _, []=> []
 | i,x::r=>(i,x)::qak (i+1) r
theorem qdd: ∀(l i k),look (qak i l) k=if i<=k then l[k - i]? else none
 | [],i,k=>by simp[qak,look]
 | y::r,i,k=>by
   simp[qak,look];by_cases e:k=i
   .grind
   .rw[qdd r (i+1) k]
    grind
def qhp(l k):look (qak 0 l) k=l[k]? :=by rw[qdd];simp
def qhJ{n}{ρ}(a: ∀i j,i < n->j < n->ρ i=ρ j->i=j): ∀ {W},(∀p∈W,p.1 < n)-> ∀ {i},i < n->look (rnL ρ W) (ρ i)=(look W i).map (rnB ρ)
 | [],_,i,_=>rfl
 | p::W,b,i,c=>by
   have d:=qhJ a (W:=W) (λq f=>b q (List.mem_cons_of_mem _ f)) c;show look ((ρ p.1,rnB ρ p.2)::rnL ρ W) (ρ i)=_
   grind[look]
def qj4{n ρ W}(a: ∀p∈W,p.1 < n){b}(c: ∀i,i < n->ρ i≠b):look (rnL ρ W) b=none:=by
 cases h:look (rnL ρ W) b with
 | none=>rfl
 | some x=>
   have:=look_mem h;obtain⟨p,d,e⟩:=List.mem_map.1 this
   grind
structure qhQ(k c:Nat)(σ:Nat->Nat):Prop where
 old: ∀i,i < k->σ i=i
 new: ∀i,k<=i->i < k+c->k<=σ i
 inj: ∀i j,i < k+c->j < k+c->σ i=σ j->i=j
structure WOk(k c:Nat)(W:List (Nat × IBlk)):Prop where
 low: ∀p∈W,p.1 < k+c/\qby (· < k+c) p.2
 new: ∀i,k<=i->i < k+c->qaM W i
def qhx{n:FuncId}{zs:List IV}{c:Nat}{R:List IBlk}{Ψ:IEnd->List (Nat × IBlk)->Prop}{ρ:Nat->Nat}
  (a2: ∀i j,i < R.length+c->j < R.length+c->ρ i=ρ j->i=j) (b5: ∀a∈R,qby (· < R.length) a) (c6:qaK (· < R.length) zs)
  (hp:qa5 P n zs ⟨R.length,qak 0 R⟩ λr _ l=> ∃σ r0 W,qhQ R.length c σ/\WOk R.length c W/\l=rnL σ W/\(∀M e,qbU M r e->qbU M (rnE σ r0) e)/\(∀x,r0= .ret x->qbh (· < R.length+c) x)/\Ψ r0 W)
  {M:Mem} (hM:MRel M) (hG: ∀i a,R[i]? =U a->M.H.G (ρ i)=U (rnB ρ a)) (hF: ∀j,R.length<=j->j < R.length+c-> ¬M.H.A (ρ j))
  {vs:List Value} (b6:vs.length=zs.length) (hv: ∀(i:Nat) (y:IV) (v:Value),zs[i]? =U y->vs[i]? =U v->VRel M (rnm ρ y) v):
  Calls P n ⟨vs⟩ M.w λe w'=> ∃M' r0 W,M'.w=w'/\qaf M M'/\MRel M'/\M'.H=M.H.upd (rnL ρ W).reverse/\qbU M' (rnE ρ r0) e/\WOk R.length c W/\Ψ r0 W:=by
 classical
 generalize hk:R.length=k at *;have T: ∀i a,R[i]? =U a->i < k:=λi a h=>by rw[<-hk];exact qad h
 have c7: ∀i,i < k-> ∃a,R[i]? =U a:=λi h=>⟨_,Kb wa⟩
 let Mp:Mem:=⟨M.w,⟨(· < k),look (qak 0 R),λc=>M.H.O c\/ ∃b a o n,(∀i,i < k->ρ i≠b)/\M.H.G b=U a/\M.β b=U (c,o,n)⟩,λi=>if i < k then M.β (ρ i) else none⟩;have C: ∀i,Mp.H.G i=R[i]? :=λi=>qhp R i
 have B: ∀i,i < k->Mp.β i=M.β (ρ i):=λi h=>if_pos h
 have a3: ∀c,Mp.own c->M.own c:=by
  rintro c ((h | ⟨b,a,o,n,_,I,D⟩) | ⟨b,a,o,n,I,D⟩)
  .exact .inl h
  .exact .inr ⟨b,a,o,n,I,D⟩
  .rw[C] at I;have d:=T b a I;rw[B b d] at D;exact .inr ⟨ρ b,_,o,n,hG b a I,D⟩
 have a8:Ren (· < k) ρ id M Mp:=by
  refine⟨rfl,λi f _=>f,λi f q d=>?_,λi f=>B i f,a3⟩;have d:R[i]? =U q:=by rw[<-C];exact d
  exact⟨_,hG i q d,(qe1 ..).symm,(rnB_gen ..).symm,(rnB_len ..).symm,(qdu ..).symm⟩
 have b7:MRel Mp:=by
  refine⟨λb a h=>T b a (by rw[<-C];exact h),λb a h=>?_,λb S a q c o n o' n' h h' z b8=>?_,λc z=>?_,λb a c o n h z=>?_⟩
  .have d:R[b]? =U a:=by rw[<-C];exact h
   have:=BRel.ren a8 (T b a d) (hM.blk _ _ (hG b a d)) (b5 a (Ka d));rw[qiy] at this;exact this
  .have d:R[b]? =U a:=by rw[<-C];exact h
   have b9:R[S]? =U q:=by rw[<-C];exact h'
   have l1:=T b a d;have l2:=T S q b9;rw[B b l1] at z;rw[B S l2] at b8;exact a2 b S wa wa (hM.inj _ _ _ _ c o n o' n' (hG b a d) (hG S q b9) z b8)
  .rcases z with z | ⟨b,a,o,n,_,I,D⟩
   .exact hM.olt c z
   .exact hM.lt (.inr ⟨b,a,o,n,I,D⟩)
  .have d:R[b]? =U a:=by rw[<-C];exact h
   have l1:=T b a d;rw[B b l1] at z;rintro(ho | ⟨S,q,o',n',hn,I,D⟩)
   .exact hM.odis _ _ c o n (hG b a d) z ho
   .exact hn b l1 (hM.inj _ _ _ _ c o n o' n' (hG b a d) I z D)
 have c8: ∀(i:Nat) (y:IV) (v:Value),zs[i]? =U y->vs[i]? =U v->VRel Mp y v:=λi y v hy hw=>by
  have:=(hv i y v hy hw).ren a8 y rfl (qaR c6 hy);rw[qiz] at this;exact this
 refine Calls.mono (hp Mp vs ⟨b7,λb h=>h,λb=>rfl⟩ b6 c8) λe w' ⟨M1,d6,l',r,e1,st,hh,he,σ,r0,W,X,hW,hl,hr,hx,c9⟩=>?_;subst e1 hl;have he:=hr M1 e he;have b2: ∀p∈W,p.1 < k+c:=λp hp=>(hW.low p hp).1
 have c0: ∀i,i < k+c-> ∃a,(match look (rnL ρ W) (ρ i) with | some x=>U x | none=>M.H.G (ρ i))=U (rnB ρ a)/\M1.H.G (σ i)=U (rnB σ a)/\qby (· < k+c) a:=by
  intro i f;rw[qhJ a2 b2 f,hh.G,qae,qhJ X.inj b2 f];cases E:look W i with
  | some a=>exact⟨a,rfl,rfl,(hW.low _ (look_mem E)).2⟩
  | none=>
    have Q:i < k:=by
     rcases Kk i k with h | h
     .exact h
     .obtain⟨a,d⟩:=hW.new i h f;rw[E] at d;cases d
    obtain⟨a,d⟩:=c7 i Q;have a6:=b5 a (Ka d);have c3:qby (· < k+c) a:=by
     cases a with
     | arr sz g d5=>exact λd0 c4=>qcB (λb (d:b < k)=>(by omega:b < k+c)) (a6 d0 c4)
     | mp es=>exact λe he=>qeI (λb (d:b < k)=>(by omega:b < k+c)) _ (a6 e he)
     | ob k' vs=>exact qcB (λb (d:b < k)=>(by omega:b < k+c)) a6
    refine⟨a,by simpa using hG i a d,?_,c3⟩;simp only[Option.map_none,X.old i Q,qhp,d];rw[qjG (σ:=id) (K:=(· < k)) (λi f=>X.old i f) a6,qiy]
 let M':Mem:=⟨M1.w,M.H.upd (rnL ρ W).reverse,λb=>if h: ∃i,i < k+c/\ρ i=b then M1.β (σ (Classical.choose h)) else M.β b⟩;have b3: ∀b,M'.H.G b=match look (rnL ρ W) b with | some x=>U x | none=>M.H.G b:=by
  intro b;show(M.H.upd (rnL ρ W).reverse).G b=_;rw[qhd,List.reverse_reverse];cases look (rnL ρ W) b<;>rfl
 have b4: ∀b,M'.H.A b↔M.H.A b\/ ∃a,(b,a)∈rnL ρ W:=by
  intro b;show(M.H.upd (rnL ρ W).reverse).A b↔_;rw[qiI];simp
 have t: ∀i,i < k+c->M'.β (ρ i)=M1.β (σ i):=by
  intro i f;have c5: ∃j,j < k+c/\ρ j=ρ i:=⟨i,f,rfl⟩;have z:=Classical.choose_spec c5;show(if h: ∃j,j < k+c/\ρ j=ρ i then M1.β (σ (Classical.choose h)) else M.β (ρ i))=_;rw[dif_pos c5,a2 _ _ z.1 f z.2]
 have m: ∀b,(∀i,i < k+c->ρ i≠b)->M'.β b=M.β b:=λb d=>dif_neg λ⟨i,I,D⟩=>d i I D
 have u: ∀b,(∀i,i < k+c->ρ i≠b)->M'.H.G b=M.H.G b:=λb d=>by rw[b3,qj4 b2 d]
 have w: ∀i,i < k+c-> ∃a,M'.H.G (ρ i)=U (rnB ρ a)/\M1.H.G (σ i)=U (rnB σ a)/\qby (· < k+c) a:=λi f=>by
  obtain⟨a,I,D⟩:=c0 i f;exact⟨a,by rw[b3];exact I,D⟩
 have a7:M'.H.O=M.H.O:=by
  show(M.H.upd (rnL ρ W).reverse).O=M.H.O;generalize (rnL ρ W).reverse=V;generalize M.H=H;induction V generalizing H with
  | nil=>rfl
  | cons p V ih=>exact ih (H.put p.1 p.2)
 have a4: ∀c,Mp.H.O c->M1.H.O c:=λc h=>by rw[st.oeq];exact h
 have a0: ∀b,(∃i,i < k+c/\ρ i=b)\/ ∀i,i < k+c->ρ i≠b:=by
  intro b;by_cases h: ∃i,i < k+c/\ρ i=b
  .exact .inl h
  .exact .inr λi f e=>h ⟨i,f,e⟩
 have a9: ∀c,M'.own c->M1.own c:=by
  rintro c (h | ⟨b,a,o,n,I,D⟩)
  .rw[a7] at h;exact .inl (a4 c (.inl h))
  .rcases a0 b with ⟨i,f,rfl⟩ | d
   .obtain⟨b0,L,N,_⟩:=w i f;rw[t i f] at D;exact .inr ⟨σ i,_,o,n,N,D⟩
   .rw[u b d] at I;rw[m b d] at D;exact .inl (a4 c (.inr ⟨b,a,o,n,λi f=>d i wa,I,D⟩))
 have s:qaf M M':=by
  refine⟨st.os,st.tape,st.output,st.size,λc z d1=>?_,λb d=>(b4 b).2 (.inl d),λb q hA d=>?_,a7,λc z=>st.ofix c (.inl z)⟩
  .obtain⟨k1,k2⟩:=st.keep c z λh=>d1 (a3 c h);exact⟨k1,λh=>k2 (a9 c h)⟩
  .rcases a0 b with ⟨i,f,rfl⟩ | a1
   .have Q:i < k:=by
     rcases Kk i k with h | h
     .exact h
     .exact absurd hA (hF i h f)
    obtain⟨b0,L,N,_⟩:=w i f;rw[d] at L;cases L;rw[X.old i Q] at N;obtain⟨b1,q1,q2,q3,q4,q5⟩:=st.comp i _ Q N;have d2:R[i]? =U b1:=by rw[<-C];exact q1
    refine⟨_,hG i b1 d2,?_,?_,?_,λe=>?_⟩
    .rw[qe1,qe1];rw[qe1] at q2;exact q2
    .rw[qdu,qdu];rw[qdu] at q3;exact q3
    .rw[rnB_gen,rnB_gen];rw[rnB_gen] at q4;exact q4
    .rw[rnB_gen,rnB_gen] at e;rw[rnB_gen] at q5;obtain⟨f1,f2⟩:=q5 e;rw[rnB_len] at f2;rw[rnB_len,rnB_len];exact⟨by rw[t i f,X.old i Q,f1,B i Q],f2⟩
   .rw[u b a1] at d;exact⟨q,d,rfl,rfl,Kl _,λ_=>⟨m b a1,rfl⟩⟩
 have al:Ren (· < k+c) σ ρ M1 M':=by
  refine⟨rfl,λi f _=>?_,λi f q d=>?_,t,a9⟩
  .have d3:i < k+c:=f;rw[b4];obtain⟨a,L,_⟩:=c0 i d3;cases E:look (rnL ρ W) (ρ i) with
   | some x=>exact .inr ⟨x,look_mem E⟩
   | none=>rw[E] at L;exact .inl (hM.dom _ _ L)
  .obtain⟨a,L,N,_⟩:=w i f;rw[d] at L;cases L;exact⟨_,N,by rw[qe1,qe1],by rw[rnB_gen,rnB_gen],by rw[rnB_len,rnB_len],by rw[qdu,qdu]⟩
 have d4:MRel M':=by
  refine⟨λb a d=>?_,λb a d=>?_,λb S a q c o n o' n' h h' c1 c2=>?_,λc z=>?_,λb a c o n h z=>?_⟩
  .rw[b4];rw[b3] at d;cases E:look (rnL ρ W) b with
   | some x=>exact .inr ⟨x,look_mem E⟩
   | none=>rw[E] at d;exact .inl (hM.dom _ _ d)
  .rcases a0 b with ⟨i,f,rfl⟩ | a1
   .obtain⟨b0,L,N,g3⟩:=w i f;rw[d] at L;cases L;exact BRel.ren al f (hh.rel.blk _ _ N) g3
   .rw[u b a1] at d;refine BRel.step s (m b a1) (λc o n z=>?_) (hM.blk b a d);exact st.ofix c (.inr ⟨b,a,o,n,λi f=>a1 i wa,d,z⟩)
  .rcases a0 b with ⟨i,f,rfl⟩ | F<;>rcases a0 S with ⟨j,hj,rfl⟩ | a5
   .obtain⟨x,L,N,_⟩:=w i f;obtain⟨y,f1,f2,_⟩:=w j hj;rw[t i f] at c1;rw[t j hj] at c2;have:=hh.rel.inj _ _ _ _ c o n o' n' N f2 c1 c2;rw[X.inj i j f hj this]
   .obtain⟨x,L,N,_⟩:=w i f;rw[t i f] at c1;rw[u S a5] at h';rw[m S a5] at c2;exact absurd (a4 c (.inr ⟨S,q,o',n',λi f=>a5 i wa,h',c2⟩)) (hh.rel.odis _ _ c o n N c1)
   .obtain⟨x,L,N,_⟩:=w j hj;rw[t j hj] at c2;rw[u b F] at h;rw[m b F] at c1;exact absurd (a4 c (.inr ⟨b,a,o,n,λi f=>F i wa,h,c1⟩)) (hh.rel.odis _ _ c o' n' N c2)
   .rw[u b F] at h;rw[m b F] at c1;rw[u S a5] at h';rw[m S a5] at c2;exact hM.inj b S a q c o n o' n' h h' c1 c2
  .rw[a7] at z;exact Km (hM.olt c z) st.size
  .rw[a7];rcases a0 b with ⟨i,f,rfl⟩ | F
   .obtain⟨x,L,N,_⟩:=w i f;rw[t i f] at z;exact λho=>hh.rel.odis _ _ c o n N z (a4 c (.inl ho))
   .rw[u b F] at h;rw[m b F] at z;exact hM.odis b a c o n h z
 exact⟨M',r0,W,rfl,s,d4,rfl,he.ren al hx,hW,c9⟩
end Go.Idl
namespace Go.Idl
variable{P:Program}{h0:IH}
def qdj{n}(x):bel n x->qbh (· < n) x:=by
 apply IV.rec (motive_1:=λx=>bel n x->qbh (· < n) x) (motive_2:=λl=>bels n l->qaK (· < n) l)
 .intro x _;trivial
 .intro b g o e h;exact h
 .intro b g r j h;exact h
 .intro b h;exact h
 .intro m f c i a h;exact⟨i h.1,a h.2⟩
 .intro k d h;exact d h
 .intro k d h;exact d h
 .intro _;trivial
 .intro _;trivial
 .intro x l i a h;exact⟨i h.1,a h.2⟩
def qbH{n}: ∀ {l},bels n l->qaK (· < n) l
 | [],_=>trivial
 | x::r,h=>⟨qdj x h.1,qbH h.2⟩
def qco{n b}(h:blkBel n b):qby (· < n) b:=by
 cases b with
 | arr s g a=>exact λr c=>qbH (h r c)
 | mp f=>exact λe d=>qdj _ (h e d)
 | ob k v=>exact qbH h
def qdT{f args a h Q}(d:qa5 P f a h Q)(e:wks args a):qa5 P f args h Q:=by
 intro M g j o k;obtain⟨p,l⟩:=qch e;refine d M g j wa λi y v b m=>?_;have n:=qad b;have c:=Kb (show i < args.length by omega);exact(k i _ v c m).wk (l i _ y c b)
structure PG(P:Program)(f:FuncId)(args:List IV)(R:List IBlk)(c:Nat)(x:IV)(W:List (Nat × IBlk)):Prop where
 hzs:qaK (· < R.length) args
 hin: ∀blk∈R,qby (· < R.length) blk
 hW:WOk R.length c W
 hx:qbh (· < R.length+c) x
 call:qa5 P f args ⟨R.length,qak 0 R⟩ λr _ l=> ∃σ,qhQ R.length c σ/\r= .ret (rnm σ x)/\l=rnL σ W
structure PX(P:Program)(f:FuncId)(args:List IV)(R:List IBlk)(ch:List PanicEntry)(Wp:List (Nat × IBlk)->Prop):Prop where
 hzs:qaK (· < R.length) args
 hin: ∀blk∈R,qby (· < R.length) blk
 call:qa5 P f args ⟨R.length,qak 0 R⟩ λr _ l=>r= .pan ch/\Wp l/\ ∀p∈l,p.1 < R.length/\qby (· < R.length) p.2
def ridx:List Nat->Nat->Nat->Nat
 | [],n,i=>n+i
 | b::_,_,0=>b
 | _::r,n,i+1=>ridx r n i
def qeh: ∀ {ids nx i} (h),ridx ids nx i=ids[i]
 | b::r,nx,0,_=>rfl
 | b::r,nx,i+1,h=>by simpa[ridx] using qeh (ids:=r) (nx:=nx) wg
def qcw: ∀ {ids nx i},ids.length<=i->ridx ids nx i=nx+(i - ids.length)
 | [],nx,i,_=>by rfl
 | b::r,nx,0,h=>by grind
 | b::r,nx,i+1,h=>by
   have:=qcw (ids:=r) (nx:=nx) (i:=i) wg;simp_all[ridx]
def qbO(G:Nat->Option IBlk)(ρ:Nat->Nat):List Nat->List IBlk->Prop
 | [], []=>True
 | b::r,a::R=>G b=U (rnB ρ a)/\qbO G ρ r R
 | _,_=>False
def qb1{G ρ}: ∀ {ids R},qbO G ρ ids R->ids.length=R.length
 | [], [],_=>rfl
 | _::_,_::_,h=>by simp[qb1 h.2]
 | [],_::_,h=>h.elim
 | _::_, [],h=>h.elim
def qgJ{G ρ}: ∀ {ids R},qbO G ρ ids R-> ∀(i b:Nat) (blk),ids[i]? =U b->R[i]? =U blk->G b=U (rnB ρ blk)
 | [], [],_,i,b,blk,h,_=>by grind
 | _::_,_::_,h,0,b,blk,a,c=>by simp at a c;subst a c;exact h.1
 | _::_,_::_,h,i+1,b,blk,a,c=>qgJ h.2 i b blk wg wg
 | [],_::_,h,_,_,_,_,_=>h.elim
 | _::_, [],h,_,_,_,_,_=>h.elim
def qal:List Nat->Prop
 | []=>True
 | b::r=>nin b r/\qal r
where nin (b:Nat):List Nat->Prop
 | []=>True
 | c::r=> ¬b=c/\nin b r
def qiY{b}: ∀ {r},qal.nin b r->b ∉ r
 | [],_=>by simp
 | c::r,h=>by simp;exact⟨h.1,qiY h.2⟩
def qfc: ∀ {ids},qal ids-> ∀(i j a) (c:j < ids.length),ids[i]=ids[j]->i=j
 | [],_,i,j,a,_,_=>by grind
 | b::r,h,0,0,_,_,_=>rfl
 | b::r,h,0,j+1,a,c,e=>by exact absurd wg (qiY h.1)
 | b::r,h,i+1,0,a,c,e=>by exact absurd wg (qiY h.1)
 | b::r,h,i+1,j+1,a,c,e=>by rw[qfc h.2 i j wg wg wg]
structure Here(M:Mem)(ids:List Nat)(nx:Nat)(R:List IBlk)(c:Nat):Prop where
 inj: ∀i j,i < R.length+c->j < R.length+c->ridx ids nx i=ridx ids nx j->i=j
 seen: ∀i blk,R[i]? =U blk->M.H.G (ridx ids nx i)=U (rnB (ridx ids nx) blk)
 new: ∀j,R.length<=j->j < R.length+c-> ¬M.H.A (ridx ids nx j)
def qgU{M}(n:MRel M){G ids nx c R}(o:qal ids)(l:qbO G (ridx ids nx) ids R)
  (p: ∀b blk,b∈ids->G b=U blk->M.H.G b=U blk) (q: ∀b,nx<=b->b < nx+c-> ¬M.H.A b):Here M ids nx R c:=by
 have s:=qb1 l;have a: ∀i blk,R[i]? =U blk->M.H.G (ridx ids nx i)=U (rnB (ridx ids nx) blk):=by
  intro i blk m;have f:i < ids.length:=wg
  rw[qeh f];exact p _ _ (Kc f) (qgJ l i _ blk (Kb f) m)
 have h: ∀j,R.length<=j->j < R.length+c-> ¬M.H.A (ridx ids nx j):=by
  intro j g k;rw[qcw wa]
  grind
 refine⟨λi j f r e=>?_,a,h⟩;have d:=λi f=>n.dom _ _ (a i _ (Kb f))
 rcases Kk i R.length with g | g<;>rcases Kk j R.length with k | k
 .rw[qeh wa,qeh wa] at e;exact qfc o i j wa wa e
 .grind
 .grind
 .rw[qcw wa,qcw wa] at e;omega
section
variable{f:FuncId}{args:List IV}{R:List IBlk}{c:Nat}{x:IV}{W:List (Nat × IBlk)}{ch:List PanicEntry}{Wp:List (Nat × IBlk)->Prop}
theorem PG.calls(h:PG P f args R c x W){M}(k:MRel M){ids nx}(d:Here M ids nx R c){vs}(a:vs.length=args.length)
  (m: ∀(i:Nat) (y v),args[i]? =U y->vs[i]? =U v->VRel M (rnm (ridx ids nx) y) v):
  Calls P f ⟨vs⟩ M.w λe w'=> ∃M',M'.w=w'/\qaf M M'/\MRel M'/\M'.H=M.H.upd (rnL (ridx ids nx) W).reverse/\ ∃v,e= .returned v/\VRel M' (rnm (ridx ids nx) x) v:=by
 refine(qhx (Ψ:=λj B=>j= .ret x/\B=W) d.inj h.hin h.hzs (h.call.mono λr n l ⟨o,p,q,s⟩=>⟨o, .ret x,W,p,h.hW,s,?_,?_,rfl,rfl⟩) k d.seen d.new a m).mono ?_
 .intro M e b;rw[q] at b;exact b
 .intro z t;cases t;exact h.hx
 .rintro e w' ⟨M',j,B,u,w,g,A,b,_,rfl,rfl⟩;exact⟨M',u,w,g,A,b⟩
theorem PX.calls(h:PX P f args R ch Wp){M}(q:MRel M){ids nx}(k:Here M ids nx R 0){vs}(d:vs.length=args.length)
  (s: ∀(i:Nat) (y v),args[i]? =U y->vs[i]? =U v->VRel M (rnm (ridx ids nx) y) v):
  Calls P f ⟨vs⟩ M.w λe w'=> ∃M' W,M'.w=w'/\qaf M M'/\MRel M'/\M'.H=M.H.upd (rnL (ridx ids nx) W).reverse/\e= .panicked ch/\Wp W/\ ∀p∈W,p.1 < R.length:=by
 refine(qhx (c:=0) (Ψ:=λo H=>o= .pan ch/\Wp H) k.inj h.hin h.hzs (h.call.mono λr n l ⟨t,u,w⟩=>⟨id, .pan ch,l,⟨λi _=>rfl,λi a b=>a,λi j _ _ e=>e⟩,⟨w,λi a b=>absurd b wa⟩,?_,?_,?_,rfl,u⟩) q k.seen k.new d s).mono ?_
 .exact((Kd λp _=>by rw[qiy];rfl).trans (Kg _)).symm
 .intro M e g;rw[t] at g;exact g
 .simp
 .rintro e w' ⟨M',o,H,B,C,m,D,g,E,rfl,F⟩;exact⟨M',H,B,C,m,D,g,F,λp G=>(E.low p G).1⟩
theorem qcY{ρ W p}(h:p∈rnL ρ W): ∃q∈W,p.1=ρ q.1:=by
 obtain⟨q,a,e⟩:=List.mem_map.1 h
 grind
theorem qft{nx m n M M'}(d:HRel nx m M)(r:MRel M')(a:nx<=n){V}(e:M'.H=M.H.upd V.reverse)(g: ∀p∈V,p.1 < n):HRel n (V++m) M':=by
 refine⟨r,λb h=>?_,λb=>?_⟩
 .rw[e,qiI] at h;rcases h with h | ⟨i,h⟩
  .exact Km (d.A b h) a
  grind
 .rw[e,qhd,qae,d.G]
  grind
theorem qfN{G ids nx}(h:qbO G (ridx ids nx) ids R){i}(a:i < R.length): ∃blk,G (ridx ids nx i)=U blk/\ridx ids nx i∈ids:=by
 have b:=qb1 h;rw[qeh wa];exact⟨_,qgJ h i _ _ (Kb wa) (Kb a),Kc _⟩
theorem PG.icall(h:PG P f args R c x W){hp ids}(o:qal ids)(j:qbO (look hp.m) (ridx ids hp.nx) ids R):
  qa5 P f (rnms (ridx ids hp.nx) args) hp λr nx l=>r= .ret (rnm (ridx ids hp.nx) x)/\nx=hp.nx+c/\l=rnL (ridx ids hp.nx) W:=by
 intro M G a s t;have u:Here M ids hp.nx R c:=qgU a.rel o j (λb d _ g=>by rw[a.G];omega) (λb k _ g=>by have:=a.A b g;omega);refine(h.calls a.rel u (by rw[s,qaG]) λi y v w z=>t i _ v (qbK w) z).mono ?_;rintro e H ⟨A,B,C,m,D,E⟩;refine⟨A,hp.nx+c,rnL (ridx ids hp.nx) W, .ret (rnm (ridx ids hp.nx) x),B,C,qft a m wa D λp n=>?_,E,rfl,rfl,rfl⟩;obtain⟨q,F,e⟩:=qcY n;rw[e];rcases Kk q.1 R.length with k | k
 .obtain⟨d,g,_⟩:=qfN j k;have:=a.A _ (a.rel.dom _ d (by rw[a.G];omega));omega
 .have:=(h.hW.low q F).1;rw[qcw (by rw[qb1 j];omega),qb1 j];omega
theorem PX.icall(h:PX P f args R ch Wp){hp ids}(n:qal ids)(m:qbO (look hp.m) (ridx ids hp.nx) ids R):
  qa5 P f (rnms (ridx ids hp.nx) args) hp λr nx l=>r= .pan ch/\nx=hp.nx/\ ∃W,Wp W/\l=rnL (ridx ids hp.nx) W:=by
 intro M G a o s;have t:Here M ids hp.nx R 0:=qgU a.rel n m (λb d _ g=>by rw[a.G];omega) (λb H _ g=>by omega);refine(h.calls a.rel t (by rw[o,qaG]) λi y v u w=>s i _ v (qbK u) w).mono ?_;rintro e I ⟨z,W,A,B,j,C,rfl,D,E⟩;refine⟨z,hp.nx,rnL (ridx ids hp.nx) W, .pan ch,A,B,qft a j (Kl _) C λp k=>?_,rfl,rfl,rfl,W,D,rfl⟩;obtain⟨q,F,e⟩:=qcY k;rw[e];obtain⟨d,g,_⟩:=qfN m (E q F);exact a.A _ (a.rel.dom _ d (by rw[a.G];omega))
def rnR(ρ:Nat->Nat)(ids:List Nat)(R:List IBlk):List (Nat × IBlk):=ids.zip (R.map (rnB ρ))
theorem rnR_seen{G ρ}: ∀ {ids R},qbO G ρ ids R-> ∀p∈rnR ρ ids R,G p.1=U p.2
 | [], [],_,p,a=>by simp[rnR] at a
 | b::r,d::R,h,p,a=>by
   simp[rnR] at a;rcases a with rfl | a
   .exact h.1
   .exact rnR_seen h.2 p a
 | [],_::_,h,_,_=>h.elim
 | _::_, [],h,_,_=>h.elim
theorem qlY{ρ ids R}(h:ids.length=R.length):(rnR ρ ids R).map (·.1)=ids:=by simp_all[List.map_fst_zip,rnR]
theorem qnA{ρ ids R}(h:ids.length=R.length){b}(a:b∈ids): ∃blk,(b,blk)∈rnR ρ ids R:=by
 rw[<-qlY (ρ:=ρ) h] at a
 grind
theorem PG.loc{o j g k ts zs ids nx G}(h:PG P f args R c x W)
  (I:o.op= .call {callee:= .value g,args:=⟨k⟩,argTypes:=ts}) (L:qao j g k=U (f,zs)) (N:fnOk P f=Y) (O:wks zs (rnms (ridx ids nx) args)) (S:qal ids) (p:qbO G (ridx ids nx) ids R):
  Loc P o j (rnR (ridx ids nx) ids R) (Kf nx c) (rnm (ridx ids nx) x) (rnL (ridx ids nx) W).reverse:=by
 intro T m M a q r X hr K Q hK;obtain⟨vs,l,C,s⟩:=qez hr I L N;have hl:=qb1 p;have t: ∀b d,b∈ids->G b=U d->M.H.G b=U d:=by
  intro b d u hg;obtain⟨D,E⟩:=qnA (ρ:=ridx ids nx) hl u;have n:=rnR_seen p _ E;have w:=r _ E;rw[hg] at n;cases n;rw[q.G];omega
 have hh:Here M ids nx R c:=qgU q.rel S p t λb n w u=>X b wg u
 obtain⟨z,e2⟩:=qch O;rw[qaG] at z;unfold Oper.wp;rw[l];refine Calls.mono (h.calls q.rel hh wa λi y v F A=>?_) λe w' ⟨M',z,st,B,hH,v,he,s⟩=>?_
 .have a0:=qad F;have H:=Kb (show i < zs.length by omega);exact(s i _ v H A).wk (e2 i _ _ H (qbK F))
 grind
theorem PG.fits{ids nx G}(h:PG P f args R c x W)(a:qbO G (ridx ids nx) ids R):
  FR.fitsG {x:=rnm (ridx ids nx) x,R:=rnR (ridx ids nx) ids R,F:=Kf nx c,W:=(rnL (ridx ids nx) W).reverse} G nx:=by
 refine⟨rnR_seen a,λb i=>?_,λp d=>?_⟩
 .grind
 .simp at d;obtain⟨q,j,e⟩:=qcY d;have k:=qb1 a;rcases Kk q.1 R.length with g | g
  .obtain⟨_,_,l⟩:=qfN a g;rw[e];exact .inr (qnA k l)
  .have:=(h.hW.low q j).1;rw[e,qcw wa]
   grind
end
def qdA(P:Program)(c:FuncId)(zs:List IV)(G:Nat->Option IBlk)(nx:Nat)(K:IV->Nat->List (Nat × IBlk)->List Nat->Prop):Prop:=
 ∃args R a x W i,PG P c args R a x W/\(rnms (ridx i nx) args=zs/\qal i/\qbO G (ridx i nx) i R)/\K (rnm (ridx i nx) x) a (rnL (ridx i nx) W) i
def qmP{c zs z G nx K}(h:zs=z):qdA P c zs G nx K=qdA P c z G nx K:=wy
attribute [congr] qmP
def callG_of{c zs G nx K args R a x W}(ids)
  (hp:PG P c args R a x W) (h:rnms (ridx ids nx) args=zs/\qal ids/\qbO G (ridx ids nx) ids R) (b:K (rnm (ridx ids nx) x) a (rnL (ridx ids nx) W) ids):qdA P c zs G nx K:=⟨args,R,a,x,W,ids,hp,h,b⟩
def qeM(P:Program)(c:FuncId)(zs:List IV)(G:Nat->Option IBlk)(nx:Nat)(K:List PanicEntry->List (Nat × IBlk)->Prop):Prop:=
 ∃args R ch Wp i,PX P c args R ch Wp/\(rnms (ridx i nx) args=zs/\qal i/\qbO G (ridx i nx) i R)/\ ∀W,Wp W->K ch (rnL (ridx i nx) W)
def qlc{c zs z G nx K}(h:zs=z):qeM P c zs G nx K=qeM P c z G nx K:=wy
attribute [congr] qlc
def qaw{c zs G nx K args R ch Wp}(ids)
  (hp:PX P c args R ch Wp) (h:rnms (ridx ids nx) args=zs/\qal ids/\qbO G (ridx ids nx) ids R) (a: ∀W,Wp W->K ch (rnL (ridx ids nx) W)):qeM P c zs G nx K:=⟨args,R,ch,Wp,ids,hp,h,a⟩
section
variable{Q:Exit->qab->Prop}{k:List It}{all:Array Oper}{r:List Oper}{dst:Option Tmp}{ty:TypeId}{pos:String}{aft:Array Edge}{N:Nat}{s:List (Nat × IV)}{d:List IDef}{nx:Nat}{l:List (Nat × IBlk)}
 {g:Option (Nat × Bool)} {f:Operand} {args:List Operand} {ts:List TypeId} {K:qab->List FP->Prop} {acc:List FP}
theorem at_g(n)
  (h:qas (qao (ev s) f args) (λq=>(qam all s ⟨dst, .call {callee:= .value f,args:=⟨args⟩,argTypes:=⟨ts⟩},ty,pos,aft,g⟩=U Y/\fnOk P q.1=Y/\dOk N dst=Y)/\
   qdA P q.1 (qbw P ts q.2) (look (l++h0.m)) nx λx b W _=>vc P h0 Q n (.ops all r::k) ⟨N,putS dst x s,d,nx+b,W++l⟩) False):
  IRun P h0 (.ops all (⟨dst, .call {callee:= .value f,args:=⟨args⟩,argTypes:=⟨ts⟩},ty,pos,aft,g⟩::r)::k) ⟨N,s,d,nx,l⟩ Q:=by
 cases i:qao (ev s) f args with
 | none=>rw[i] at h;exact h.elim
 | some q=>
   rw[i] at h;obtain⟨⟨m,o,A⟩,a,R,b,x,W,j,p,⟨t,u,v⟩,w⟩:=h;have y:wks q.2 (rnms (ridx j nx) a):=by rw[t];exact qcV ts q.2
   refine iops_call (S:=⟨N,s,d,nx,l⟩) rfl m i o wq ((qdT (p.icall (hp:=⟨nx,l++h0.m⟩) u v) y).mono ?_);rintro e z B ⟨rfl,rfl,rfl⟩;exact vc_sound Q n _ _ w
theorem at_x
  (h:qas (qao (ev s) f args) (λq=>(qam all s ⟨dst, .call {callee:= .value f,args:=⟨args⟩,argTypes:=⟨ts⟩},ty,pos,aft,g⟩=U Y/\fnOk P q.1=Y/\dOk N dst=Y)/\
   qeM P q.1 (qbw P ts q.2) (look (l++h0.m)) nx λch W=>Q (.panic ch) ⟨N,s,d,nx,W++l⟩) False):
  IRun P h0 (.ops all (⟨dst, .call {callee:= .value f,args:=⟨args⟩,argTypes:=⟨ts⟩},ty,pos,aft,g⟩::r)::k) ⟨N,s,d,nx,l⟩ Q:=by
 cases b:qao (ev s) f args with
 | none=>rw[b] at h;exact h.elim
 | some q=>
   rw[b] at h;obtain⟨⟨j,m,z⟩,a,R,ch,Wp,i,p,⟨n,o,t⟩,u⟩:=h;have v:wks q.2 (rnms (ridx i nx) a):=by rw[n];exact qcV ts q.2
   refine iops_call (S:=⟨N,s,d,nx,l⟩) rfl j b m wq ((qdT (p.icall (hp:=⟨nx,l++h0.m⟩) o t) v).mono ?_);rintro e w A ⟨rfl,rfl,W,y,rfl⟩;exact qc2 (u _ y)
theorem qbI
  (h:qas (qao (ev s) f args) (λq=>(qam all s ⟨dst, .call {callee:= .value f,args:=⟨args⟩,argTypes:=⟨ts⟩},ty,pos,aft,g⟩=U Y/\fnOk P q.1=Y/\dOk N dst=Y)/\
   qdA P q.1 (qbw P ts q.2) (look (l++h0.m)) nx λx a W ids=>dvc P h0 all K r ⟨N,putS dst x s,d,nx+a,W++l⟩ (acc++ [(ids,W.reverse.map (·.1))])) False):
  DRun P h0 all (⟨dst, .call {callee:= .value f,args:=⟨args⟩,argTypes:=⟨ts⟩},ty,pos,aft,g⟩::r) ⟨N,s,d,nx,l⟩ acc K:=by
 cases e:qao (ev s) f args with
 | none=>rw[e] at h;exact h.elim
 | some q=>
   rw[e] at h;obtain⟨⟨m,n,o⟩,b,R,a,x,W,ids,j,⟨t,u,p⟩,v⟩:=h;have w:wks q.2 (rnms (ridx ids nx) b):=by rw[t];exact qcV ts q.2
   obtain⟨i,y,z,A⟩:=dvc_sound _ _ _ v;refine⟨{x:=rnm (ridx ids nx) x,R:=rnR (ridx ids nx) ids R,F:=Kf nx a,W:=(rnL (ridx ids nx) W).reverse}::i,y, .op (S:=⟨N,s,d,nx,l⟩) m (j.loc rfl e n w u p) (j.fits p) o ?_,?_⟩
   .grind
   .simpa[FR.fp,qlY (qb1 p)] using A
end
def rsel(k:Nat)(news:List Nat)(i:Nat):Nat:=if i < k then i else news.getD (i - k) 0
mutual
def fzv(keep:Nat->Bool)(G:Nat->Option IBlk):IV->IV->Prop
 | .agg xs, .agg ys=>fzvs keep G xs ys
 | .tup xs, .tup ys=>fzvs keep G xs ys
 | .ref b g o l, .ref b' g' o' l'=>b=b'/\g=g'/\o=o'/\l=l'
 | .ptr b g r j, .ptr b' g' r' j'=>b=b'/\g=g'/\r=r'/\j=j'
 | .mp b, .mp b'=>b=b'
 | .dead, .dead=>True
 | .clo f xs cs, .clo f' ys ds=>f=f'/\fzvs keep G xs ys/\fzvs keep G cs ds
 | .ref b g o l,y=>keep b=Z/\frz G (.ref b g o l)=U y
 | .ptr b g r j,y=>keep b=Z/\frz G (.ptr b g r j)=U y
 | .p a,y=>wk (.p a) y
 | _,_=>False
def fzvs(keep:Nat->Bool)(G:Nat->Option IBlk):List IV->List IV->Prop
 | [], []=>True
 | x::xs,y::ys=>fzv keep G x y/\fzvs keep G xs ys
 | _,_=>False
end
def qdr{e G}: ∀ {xs ys},fzvs e G xs ys->ys.length=xs.length/\ ∀(i:Nat) (x y),xs[i]? =U x->ys[i]? =U y->fzv e G x y
 | [], [],_=>by simp
 | x::xs,y::ys,h=>by
   simp[fzvs] at h;obtain⟨n,o⟩:=qdr h.2
   grind
 | [],_::_,h=>by simp[fzvs] at h
 | _::_, [],h=>by simp[fzvs] at h
def qlq{e:Nat->Bool}{G:Nat->Option IBlk}{ids:List Nat}(x:IV): ∀y,fzv e G x y->(∀b∈refs x,e b=Z->b∈ids)->Fz G ids x y:=by
 apply IV.rec (motive_1:=λx=> ∀y,fzv e G x y->(∀b∈refs x,e b=Z->b∈ids)->Fz G ids x y)
  (motive_2:=λl=> ∀x∈l,∀y,fzv e G x y->(∀b∈refs x,e b=Z->b∈ids)->Fz G ids x y)
 .intro x y h _;simp only[fzv] at h;exact wk_fz _ _ h
 .intro b g t u y h o;have p:e b=Z/\frz G (.ref b g t u)=U y->Fz G ids (.ref b g t u) y:=λ⟨v,w⟩=>(frz_Fz _ y ids w λc n=>by simp only[refs,Kj] at n;subst n;exact o c (by simp[refs]) v).1
  cases y<;>simp only[fzv] at h
  case ref=>obtain⟨rfl,rfl,rfl,rfl⟩:=h;exact .refl _
  all_goals exact p h
 .intro b g r j y h o;have p:e b=Z/\frz G (.ptr b g r j)=U y->Fz G ids (.ptr b g r j) y:=λ⟨v,w⟩=>(frz_Fz _ y ids w λc n=>by simp only[refs,Kj] at n;subst n;exact o c (by simp[refs]) v).1
  cases y<;>simp only[fzv] at h
  case ptr=>obtain⟨rfl,rfl,rfl,rfl⟩:=h;exact .refl _
  all_goals exact p h
 .intro b y h _;cases y<;>simp only[fzv] at h
  subst h;exact .refl _
 .intro I f c C D y h o;cases y<;>simp only[fzv] at h
  obtain⟨rfl,v,w⟩:=h;obtain⟨A,B⟩:=qdr v;obtain⟨L,M⟩:=qdr w;simp only[refs,List.mem_append] at o;exact .clo I f _ c _ A L (λi a b m q=>C a (Ka m) b (B i a b m q) λc n=>o c (.inl (qbe m c n)))
   (λi a b m q=>D a (Ka m) b (M i a b m q) λc n=>o c (.inr (qbe m c n)))
 .intro E F y h o;cases y<;>simp only[fzv] at h
  obtain⟨A,B⟩:=qdr h;exact .agg E _ A λi a b m q=>F a (Ka m) b (B i a b m q) λc n=>o c (qbe m c n)
 .intro E F y h o;cases y<;>simp only[fzv] at h
  obtain⟨A,B⟩:=qdr h;exact .tup E _ A λi a b m q=>F a (Ka m) b (B i a b m q) λc n=>o c (qbe m c n)
 .intro y h _;cases y<;>simp only[fzv] at h;exact .refl _
 .intro x O;cases O
 .intro x l C D z H;rcases List.mem_cons.1 H with rfl | H
  .exact C
  .exact D z H
def fzv_refl{a G}(x):fzv a G x x:=by
 apply IV.rec (motive_1:=λx=>fzv a G x x) (motive_2:=λl=>fzvs a G l l)
 .intro x;exact wk_refl _
 .simp_all[fzv]
 .simp_all[fzv]
 .intro b;rfl
 .simp_all[fzv]
 .intro n h;simp[fzv];omega
 .intro n h;simp[fzv];omega
 .simp[fzv]
 .simp[fzvs]
 simp_all[fzvs]
def fzvs_refl{a G}: ∀l:List IV,fzvs a G l l
 | []=>by simp[fzvs]
 | x::r=>by exact⟨fzv_refl x,fzvs_refl r⟩
def fzRs(a:Nat->Bool)(G:Nat->Option IBlk):List (List IV)->List (List IV)->Prop
 | [], []=>True
 | r::e,h::b=>fzvs a G r h/\fzRs a G e b
 | _,_=>False
def qaB{a G}: ∀l:List (List IV),fzRs a G l l
 | []=>trivial
 | x::r=>⟨fzvs_refl x,qaB r⟩
def qlp{e G}: ∀ {xs ys},fzRs e G xs ys->ys.length=xs.length/\ ∀(i:Nat) (x y),xs[i]? =U x->ys[i]? =U y->fzvs e G x y
 | [], [],_=>by simp
 | x::xs,y::ys,h=>by
   obtain⟨n,o⟩:=qlp h.2;refine⟨wg,λi a b j m=>?_⟩;cases i with
   | zero=>simp at j m;subst j m;exact h.1
   | succ i=>grind
 | [],_::_,h=>h.elim
 | _::_, [],h=>h.elim
def fzEs(a:Nat->Bool)(G:Nat->Option IBlk):List (Value × IV)->List (Value × IV)->Prop
 | [], []=>True
 | r::h,e::b=>(r.1=e.1/\fzv a G r.2 e.2)/\fzEs a G h b
 | _,_=>False
def qjj{a G}: ∀l:List (Value × IV),fzEs a G l l
 | []=>trivial
 | x::r=>⟨⟨rfl,fzv_refl x.2⟩,qjj r⟩
def qlo{e G}: ∀ {xs ys},fzEs e G xs ys->ys.length=xs.length/\ ∀(i:Nat) (x y),xs[i]? =U x->ys[i]? =U y->x.1=y.1/\fzv e G x.2 y.2
 | [], [],_=>by simp
 | x::xs,y::ys,h=>by
   obtain⟨n,o⟩:=qlo h.2;refine⟨wg,λi a b j m=>?_⟩;cases i with
   | zero=>simp at j m;subst j m;exact h.1
   | succ i=>grind
 | [],_::_,h=>h.elim
 | _::_, [],h=>h.elim
def fzB(a:Nat->Bool)(G:Nat->Option IBlk):IBlk->IBlk->Prop
 | .arr j g e, .arr h m b=>j=h/\g=m/\fzRs a G e b
 | .mp n, .mp i=>fzEs a G n i
 | .ob k o, .ob p v=>p=k/\v=o
 | _,_=>False
def fzB_Fz{m G ids x y}(h:fzB m G x y)(w: ∀b∈qeL x,m b=Z->b∈ids):FzB G ids x y:=by
 cases x with
 | arr sz g z=>
   cases y with
   | arr n A e=>
     obtain⟨rfl,rfl,h⟩:=h;obtain⟨q,t⟩:=qlp h;refine⟨rfl,rfl,q,λi o p B u=>?_⟩;obtain⟨H,I⟩:=qdr (t i o p B u);refine⟨H,λj a b C L=>qlq a b (I j a b C L) λc v=>w c ?_⟩;simp[qeL];exact⟨o,Ka B,qbe C c v⟩
   | mp D=>exact h.elim
   | ob k E=>exact h.elim
 | ob k E=>
   cases y with
   | arr n A e=>exact h.elim
   | mp D=>exact h.elim
   | ob M O=>exact h
 | mp D=>
   cases y with
   | arr n A e=>exact h.elim
   | ob k E=>exact h.elim
   | mp S=>
     obtain⟨q,t⟩:=qlo h;refine⟨q,λi k M x y F T=>?_⟩;obtain⟨X,e2⟩:=t i _ _ F T;refine⟨X.symm,qlq x y e2 λc v=>w c ?_⟩
     grind[qeL]
def qd0(a:Nat->Bool)(G:Nat->Option IBlk):List (Nat × IBlk)->Prop
 | []=>True
 | p::r=>qas (G p.1) (λb=>fzB a G b p.2) False/\qd0 a G r
def qjO{a G}: ∀ {W},qd0 a G W-> ∀p∈W,∃blk,G p.1=U blk/\fzB a G blk p.2
 | [],_,p,b=>by grind
 | q::r,h,p,b=>by
   rcases List.mem_cons.1 b with rfl | b
   .have:=h.1;cases e:G p.1 with
    | none=>rw[e] at this;exact this.elim
    | some blk=>rw[e] at this;exact⟨blk,rfl,this⟩
   .exact qjO h.2 p b
def memB(b:Nat):List Nat->Bool
 | []=>Z
 | c::r=>if b=c then Y else memB b r
def memB_of{b}: ∀ {l},b∈l->memB b l=Y
 | c::r,h=>by
   unfold memB;split
   .rfl
   .rename_i e;exact memB_of ((List.mem_cons.1 h).resolve_left e)
def keepB(k:Nat)(news:List Nat)(b:Nat):Bool:=if b < k then Y else memB b news
def qfx{k m S z y V news}(B:S.d= [])(u:k<=S.nx)(C:qbR k (V.map (·.1)) (S.l.map (·.1)))
  (D:qd0 (keepB k news) (look (S.l++m)) V) (E: ∀p∈V,keepB k news p.1=Y) (F:fzv (keepB k news) (look (S.l++m)) z y): ∃ids,qcD ⟨k,m⟩ ids S z y S.nx V:=by
 have v:=qjO D;let all:List Nat:=refs z++V.flatMap λp=>match look (S.l++m) p.1 with | some j=>qeL j | none=> []
 have i: ∀b,b∈all->keepB k news b=Z->b∈all.filter λb=>!keepB k news b:=λb t w=>List.mem_filter.2 ⟨t,wg⟩
 refine⟨all.filter λb=>!keepB k news b,⟨rfl,rfl, .inl B,u,Kl _,wb,λp n=>?_,λp n=>?_,λb o=>?_⟩,qlq z y F λb o a=>i b (List.mem_append_left _ o) a, .inl rfl⟩
 .obtain⟨j,t,w⟩:=v p n;refine⟨j,t,fzB_Fz w λb o a=>i b (List.mem_append_right _ (List.mem_flatMap.2 ⟨p,n,?_⟩)) a, .inl rfl⟩
  grind
 .rcases allIn_mem C _ (Kh n) with A | A<;>simp_all
 grind[keepB]
def hasAll(W:List (Nat × IBlk))(k:Nat):Nat->Prop
 | 0=>True
 | c+1=>(look W (k+c)).isSome=Y/\hasAll W k c
def qfr{W k}: ∀ {c},hasAll W k c-> ∀i,k<=i->i < k+c->qaM W i
 | 0,_,i,a,b=>by omega
 | c+1,h,i,a,b=>by
   by_cases e:i=k+c
   .subst e;exact Option.isSome_iff_exists.1 h.1
   .exact qfr h.2 i a wa
def endG(P:Program)(fn:Func)(k:Nat)(m:List (Nat × IBlk))(c:Nat)(x:IV)(W:List (Nat × IBlk))(news:List Nat)(S:qab):Prop:=
 qas (ires P S (S.l++m) fn.results.toList) (λz=>fzv (keepB k news) (look (S.l++m)) z (rnm (rsel k news) x)) False/\
  qd0 (keepB k news) (look (S.l++m)) (rnL (rsel k news) W)/\qbR k ((rnL (rsel k news) W).map (·.1)) (S.l.map (·.1))
def EndG(P:Program)(fn:Func)(k:Nat)(m:List (Nat × IBlk))(c:Nat)(x:IV)(W:List (Nat × IBlk)):Exit->qab->Prop
 | .normal,S=>S.d= []/\k<=S.nx/\ ∃n,(n.length=c/\geAll k n/\qal n)/\endG P fn k m c x W n S
 | .ret,S=>S.d= []/\k<=S.nx/\ ∃n,(n.length=c/\geAll k n/\qal n)/\endG P fn k m c x W n S
 | _,_=>False
def qka(k:Nat)(m:List (Nat × IBlk))(Wp:List (Nat × IBlk)->Prop)(ch:List PanicEntry):Exit->qab->Prop
 | .panic c,S=>S.d= []/\c=ch/\k<=S.nx/\ ∃W,qbR k (W.map (·.1)) (S.l.map (·.1))/\qd0 (keepB k []) (look (S.l++m)) W/\qbp k W/\Wp W
 | _,_=>False
section
variable{fn:Func}{kk:Nat}{m:List (Nat × IBlk)}{c:Nat}{x:IV}{W:List (Nat × IBlk)}{Wp:List (Nat × IBlk)->Prop}{ch ch':List PanicEntry}{N:Nat}{s:List (Nat × IV)}{d:List IDef}{nx:Nat}{l:List (Nat × IBlk)}
@[go_sem ↓] theorem qkr:EndG P fn kk m 0 x W .normal ⟨N,s,d,nx,l⟩=(d= []/\kk<=nx/\endG P fn kk m 0 x W [] ⟨N,s,d,nx,l⟩):=by
  simp only[EndG,eq_iff_iff];constructor
  .grind
  .rintro⟨h,a,b⟩;exact⟨h,a, [],⟨rfl,trivial,trivial⟩,b⟩
@[go_sem ↓] theorem EndG_ret0:EndG P fn kk m 0 x W .ret ⟨N,s,d,nx,l⟩=(d= []/\kk<=nx/\endG P fn kk m 0 x W [] ⟨N,s,d,nx,l⟩):=qkr
@[go_sem ↓] theorem EndG_ret:EndG P fn kk m (c+1) x W .ret ⟨N,s,d,nx,l⟩=(d= []/\kk<=nx/\ ∃news,(news.length=c+1/\geAll kk news/\qal news)/\endG P fn kk m (c+1) x W news ⟨N,s,d,nx,l⟩):=(rfl)
@[go_sem ↓] theorem qrP{news}:endG P fn kk m c x W news ⟨N,s,d,nx,l⟩=
  (qas (ires P ⟨N,s,d,nx,l⟩ (l++m) fn.results.toList) (λz=>fzv (keepB kk news) (look (l++m)) z (rnm (rsel kk news) x)) False/\
  qd0 (keepB kk news) (look (l++m)) (rnL (rsel kk news) W)/\qbR kk ((rnL (rsel kk news) W).map (·.1)) (l.map (·.1))):=(rfl)
end
def qjI{k c news}(a:news.length=c){i}(b:i < k+c):keepB k news (rsel k news i)=Y:=by
 unfold rsel keepB;split
 .rfl
 .rw[List.getD_eq_getElem?_getD,Kb (show i - k < news.length by omega)];split
  .rfl
  .exact memB_of (Kc _)
def qiD{k c news}(u:news.length=c)(o:geAll k news)(q:qal news):qhQ k c (rsel k news):=by
 have a: ∀i,¬i < k-> ∀h:i - k < news.length,rsel k news i=news[i - k]:=by
  grind[rsel]
 refine⟨λi p=>if_pos p,λi b n=>?_,λi j p v e=>?_⟩
 .rw[a i wa wa];exact geAll_mem o _ (Kc _)
 .by_cases b:i < k<;>by_cases n:j < k
  .simp_all[rsel]
  .rw[a j n wa,rsel,if_pos b] at e;have:=geAll_mem o _ (Kc (show j - k < news.length by omega));omega
  .rw[a i b wa,rsel,if_pos n] at e;have:=geAll_mem o _ (Kc (show i - k < news.length by omega));omega
  .rw[a i b wa,a j n wa] at e;have:=qfc q _ _ wa wa e;omega
section
variable{f:FuncId}{fn:Func}{code:Code}{args:List IV}{R:List IBlk}{c:Nat}{x:IV}{W:List (Nat × IBlk)}{ch:List PanicEntry}{Wp:List (Nat × IBlk)->Prop}
def qcb(n:Nat):List IBlk->Prop
 | []=>True
 | b::r=>blkBel n b/\qcb n r
theorem allBel_mem{n}: ∀ {R},qcb n R-> ∀b∈R,blkBel n b
 | [],_,b,a=>by grind
 | c::r,h,b,a=>by rcases List.mem_cons.1 a with rfl | a;exact h.1;exact allBel_mem h.2 b a
theorem endG_fin{k m S}(e)(v:e= .normal\/e= .ret)(w: ∀p∈W,p.1 < k+c)(o:S.d= [])(t:k<=S.nx){news}(a:news.length=c/\geAll k news/\qal news)
  (h:endG P fn k m c x W news S):qe9 P fn ⟨k,m⟩ (λr _ l=> ∃σ,qhQ k c σ/\r= .ret (rnm σ x)/\l=rnL σ W) e S:=by
 obtain⟨b,y,A⟩:=h;cases j:ires P S (S.l++m) fn.results.toList with
 | none=>rw[j] at b;exact b.elim
 | some z=>
   rw[j] at b;obtain⟨i,u⟩:=qfx o t A y (λp B=>by obtain⟨q,n,e⟩:=qcY B;rw[e];exact qjI a.1 (w q n)) b;have n:=qiD a.1 a.2.1 a.2.2;rcases v with rfl | rfl
   .exact .norm S z _ i _ _ o j u ⟨_,n,rfl,rfl⟩
   .exact .ret S z _ i _ _ o j u ⟨_,n,rfl,rfl⟩
theorem qqz{k m S}(j:S.d= [])(a:k<=S.nx)(n:qbR k (W.map (·.1)) (S.l.map (·.1)))(o:qd0 (keepB k []) (look (S.l++m)) W)(b:qbp k W)(e:Wp W):
  qe9 P fn ⟨k,m⟩ (λr _ l=>r= .pan ch/\Wp l/\ ∀p∈l,p.1 < k/\qby (· < k) p.2) (.panic ch) S:=by
 obtain⟨i,q⟩:=qfx (z:= .p .emp) (y:= .p .emp) (news:= []) j a n o (λp h=>by simp[keepB,(qb5 b p h).1]) (by exact wk_refl _);exact .pan S ch i _ W j q.sub ⟨rfl,e,λp h=>⟨(qb5 b p h).1,qco (qb5 b p h).2⟩⟩
theorem pg_of(n)(A:P.funcs[f]? =U fn)(t:fn.body=U code)(B:args.length<=fn.ntmps)(k)(C:R.length=k)
  (D:bels k args) (E:qcb k R) (F:qbp (k+c) W) (G:hasAll W k c) (q:bel (k+c) x)
  (H:isms args->vc P ⟨k,qak 0 R⟩ (EndG P fn k (qak 0 R) c x W) n [.code code] ⟨fn.ntmps,enum 0 args, [],k, []⟩):PG P f args R c x W:=by
 subst C;have h:=λp a=>qb5 F p a
 refine⟨qbH D,λb t=>qco (allBel_mem E b t),⟨λp a=>⟨(h p a).1,qco (h p a).2⟩,qfr G⟩,qdj x q,?_⟩;intro M I L O z;have T:=qds λi x q=>(z i x _ q (Kb wg)).small
 refine icall_of A t B (qbi.mono (vc_sound _ _ _ _ (H T)) λe S j=>?_) M I L O z;cases e with
 | normal=>obtain⟨u,v,o,w,y⟩:=j;exact endG_fin _ (.inl rfl) (λp a=>(h p a).1) u v w y
 | ret=>obtain⟨u,v,o,w,y⟩:=j;exact endG_fin _ (.inr rfl) (λp a=>(h p a).1) u v w y
 | exit id=>exact j.elim
 | goto l=>exact j.elim
 | panic ch=>exact j.elim
 | outgrown=>exact j.elim
theorem px_of(n)(p:P.funcs[f]? =U fn)(a:fn.body=U code)(q:args.length<=fn.ntmps)(k)(t:R.length=k)(u:bels k args)(v:qcb k R)
  (w:isms args->vc P ⟨k,qak 0 R⟩ (qka k (qak 0 R) Wp ch) n [.code code] ⟨fn.ntmps,enum 0 args, [],k, []⟩):PX P f args R ch Wp:=by
 subst t;refine⟨qbH u,λb a=>qco (allBel_mem v b a),?_⟩;intro M y z A j;have B:=qds λi x o=>(j i x _ o (Kb wg)).small
 refine icall_of p a q (qbi.mono (vc_sound _ _ _ _ (w B)) λe S h=>?_) M y z A j;cases e with
 | panic c=>
   obtain⟨C,rfl,D,W,E,F,G,H⟩:=h;exact qqz C D E F G H
 | normal=>exact h.elim
 | ret=>exact h.elim
 | exit id=>exact h.elim
 | goto l=>exact h.elim
 | outgrown=>exact h.elim
inductive Oc where
 | ok (c:Nat) (x:IV) (W:List (Nat × IBlk))
 | pan
def PB(P:Program)(f:FuncId)(args:List IV)(R:List IBlk)(ch:List PanicEntry)(Wp:List (Nat × IBlk)->Prop):Oc->Prop
 | .ok c x W=>PG P f args R c x W
 | .pan=>PX P f args R ch Wp
end
section
variable{ρ:Nat->Nat}{keep:Nat->Bool}{G:Nat->Option IBlk}
def rnRw(ρ:Nat->Nat)(rows:List (List IV)):List (List IV):=rows.map (rnms ρ)
@[go_sem] def qss{sz g rows}:rnB ρ (.arr sz g rows)= .arr sz g (rnRw ρ rows):=(rfl)
@[go_sem] def rnRw_nil:rnRw ρ []= []:=(rfl)
@[go_sem] def qp7{r rs}:rnRw ρ (r::rs)=rnms ρ r::rnRw ρ rs:=(rfl)
def qp8(ρ): ∀l:List PV,rnms ρ (l.map .p)=l.map .p
 | []=>rfl
 | x::r=>by simp[rnms,rnm,qp8 ρ r]
@[go_sem] def qst{b f}{l:List b}:rnRw ρ (ir f l)=ir f l:=by
  unfold rnRw ir;rw[List.map_map];exact Kd λa _=>qp8 ρ _
@[go_sem] def rnRw_app{rs us}:rnRw ρ (rs++us)=rnRw ρ rs++rnRw ρ us:=List.map_append
@[go_sem] def rnL_nil:rnL ρ []= []:=(rfl)
@[go_sem] def qrn{p r}:rnL ρ (p::r)=(ρ p.1,rnB ρ p.2)::rnL ρ r:=(rfl)
@[go_sem] def ridx_nil{nx i}:ridx [] nx i=nx+i:=(rfl)
@[go_sem] def ridx_zero{b nx r}:ridx (b::r) nx 0=b:=(rfl)
@[go_sem] def ridx_1{b nx r}:ridx (b::r) nx 1=ridx r nx 0:=(rfl)
@[go_sem] def ridx_2{b nx r}:ridx (b::r) nx 2=ridx r nx 1:=(rfl)
@[go_sem] def fzRs_self{rs}:fzRs keep G rs rs=True:=eq_true (qaB rs)
@[go_sem] def fzRs_cons{r b rs a}:fzRs keep G (r::rs) (b::a)=(fzvs keep G r b/\fzRs keep G rs a):=(rfl)
end
attribute [go_sem] qbp keepB memB rnm rnms qbO qal qal.nin qak rsel fzv fzvs fzB qd0 hasAll qcb
end Go.Idl
