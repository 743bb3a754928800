/- Facts leant on. -/
import Derived.Test.YtfhhdgkhajkapaaGreatIdFr
import Derived.RangeFuncRecord
import Derived.LoopN
import Derived.ProofKit
import Derived.SizedLaws
import Derived.Carry
set_option linter.all false
open List renaming getElem?_eq_getElem->Ka,mem_cons_self->Kb,getElem?_cons_zero->Kc,cons_append->Kd,mem_cons_of_mem->Ke,getElem?_map->Kf,append_assoc->Kg,nil_append->Kh,getElem?_cons_succ->Ki,length_append->Kj,range->Kk,mem_of_getElem?->Kl,append_nil->Km,reverse_cons->Kn,size_toArray->Ko,map_toArray->Kp,length_singleton->Kq,range'->Kr,length_cons->Ks,filter_cons->Kt,getElem?_toArray->Ku,map_cons->Kv,map_nil->Kw,getElem?_append_left->Kx,getElem?_append_right->Ky,mem_cons->Kz,getElem_of_mem->KA,take_of_length_le->KB,take_append_drop->KC,drop_zero->KD
open Go.World renaming putObj_heap_other->KE,putObj_heap_same->KF,cells?_some->KG
open Nat renaming le_of_ble_eq_true->KH,le_refl->KI,ble->KJ,beq->KK,not_lt_zero->KL,lt_of_lt_of_le->KM,lt_irrefl->KN,zero_le->KO,add_assoc->KP,zero_mul->KQ,one_mul->KR
open Go.Sem renaming run_bind->KS,run_pure->KT
open Option renaming map_eq_some_iff->KU,map_some->KV,getD_some->KW
open Go.Result renaming andThen_ok->KX
open Array renaming getElem?_toList->KY,toList_filter->KZ,append_empty->K0,empty_append->K1,getD_eq_getD_getElem?->K3,getElem?_eq_getElem->K4
open Go.Value renaming okWide->K5
open Bool renaming false_eq_true->K6,and_eq_true->K7,eq_false_iff->K8,and_false->K9
open Option renaming none->U,some->V
open Bool renaming true->Y,false->Z
namespace Go.Idl
variable{P:Program}{h0:IH}
def outK{a:Type}(b:Nat)(l:List (Nat × a)):List (Nat × a):=l.filter λq=>q.1 != b
def qdK{c}(b): ∀(l:List (Nat × c)) (k),look (outK b l) k=if k=b then U else look l k
 | [],k=>by simp[outK,look]
 | p::r,k=>by
   have i:=qdK b r k
   grind[look,outK]
def qgt{M:Mem}(h:MRel M)(b:Nat)(w: ¬M.H.A b){k:OK}{vs:List IV}{us:List Value}{ob:Obj}(p:ORel k us ob)(y:us.length=vs.length)
  (z: ∀(i:Nat) (x:IV) (v:Value),vs[i]? =V x->us[i]? =V v->VRel M x v):
  qaf M ⟨M.w.alloc ob,M.H.put b (.ob k vs),putβ M.β b (V (M.w.heap.size,0,0))⟩/\
  MRel ⟨M.w.alloc ob,M.H.put b (.ob k vs),putβ M.β b (V (M.w.heap.size,0,0))⟩:=by
 have s:qaf M ⟨M.w.alloc ob,M.H.put b (.ob k vs),putβ M.β b (V (M.w.heap.size,0,0))⟩:=by
  refine⟨rfl,rfl,rfl,wb,λc q p=>⟨heap_alloc_old M.w _ q,?_⟩,λ_ h=> .inl h,λj f r a=>?_,rfl,λ_ q=>heap_alloc_old M.w _ (h.olt _ q)⟩
  .rintro(t | ⟨j,g,o,n,a,d⟩)
   .exact p (.inl t)
   by_cases e:j=b
   .simp[putβ,e] at d;omega
   .simp only[AH.put,putβ,e,if_false] at a d;exact p (.inr ⟨j,g,o,n,a,d⟩)
  .have e:j≠b:=λe=>w (e ▸r)
   simp_all[AH.put,if_false,putβ]
 refine⟨s,h.change s b (.inr rfl) ?_ ?_ ?_ ?_ ?_ ?_⟩
 .intro j e;simp[AH.put,e]
 .intro j e;simp[putβ,e]
 .intro j g c o n e a d;exact heap_alloc_old M.w _ (h.lt (.inr ⟨j,g,o,n,a,d⟩))
 .intro f a;simp only[AH.put,if_true,Option.some.injEq] at a;subst a;exact⟨M.w.heap.size,0,0,wr,ob,us,heap_alloc_new M.w _,p,y,λi x v A B=>(z i x v A B).step s⟩
 .intro f c o n a d j g C u e l m;simp only[putβ,if_true,Option.some.injEq,Prod.mk.injEq] at d;have:=h.lt (.inr ⟨j,g,C,u,l,m⟩);omega
 .intro f c o n _ d t;simp only[putβ,if_true,Option.some.injEq,Prod.mk.injEq] at d;have:=h.olt c t;omega
def qpO{M:Mem}(h:MRel M){b:Nat}{k k':OK}{vs vs':List IV}{c o n:Nat}{us:List Value}{ob:Obj}(t:M.H.G b=V (.ob k vs))(f:M.β b=V (c,o,n))(A:(IBlk.ob k' vs').isMp=(IBlk.ob k vs).isMp)
  (u:ORel k' us ob) (B:us.length=vs'.length) (C: ∀(i:Nat) (x:IV) (v:Value),vs'[i]? =V x->us[i]? =V v->VRel M x v):
  qaf M ⟨M.w.putObj c ob,M.H.put b (.ob k' vs'),M.β⟩/\MRel ⟨M.w.putObj c ob,M.H.put b (.ob k' vs'),M.β⟩:=by
 have l:M.own c:= .inr ⟨b,_,o,n,t,f⟩;have s:qaf M ⟨M.w.putObj c ob,M.H.put b (.ob k' vs'),M.β⟩:=by
  refine⟨rfl,rfl,rfl,wb,λy d u=>⟨KE (λe=>u (e ▸l)),?_⟩,λ_ h=> .inl h,λr j D a=>?_,rfl,λy d=>KE (λe=>h.odis b _ c o n t f (e ▸d))⟩
  .rintro(z | ⟨r,m,p,q,a,g⟩)
   .exact u (.inl z)
   by_cases e:r=b
   .simp_all
   .simp only[AH.put,e,if_false] at a;exact u (.inr ⟨r,m,p,q,a,g⟩)
  .by_cases e:r=b
   .subst e;simp only[AH.put,if_true,Option.some.injEq] at a;subst a;exact⟨_,t,rfl,A,KI _,λ_=>⟨rfl,rfl⟩⟩
   simp_all[AH.put,if_false]
 refine⟨s,h.change s b (.inr rfl) ?_ ?_ ?_ ?_ ?_ ?_⟩
 .intro r e;simp[AH.put,e]
 .intro r e;rfl
 .intro r m y p q e a d;exact KE (λE=>e (h.inj r b m _ c p q o n a t (E ▸d) f))
 .intro j a;simp only[AH.put,if_true,Option.some.injEq] at a;subst a;refine⟨c,o,n,f,ob,us,KF (h.lt l),u,B,λi x v F G=>(C i x v F G).step s⟩
 .intro j y p q a d r m H I e w g;simp only at d;rw[f] at d;cases d;exact e (h.inj r b m _ c H I o n w t g f)
 .intro j y p q _ d z;simp only at d;rw[f] at d;cases d;exact h.odis b _ c o n t f z
def mem_drop{M}(h:MRel M){b f c o n}(r:M.H.G b=V f)(m:M.β b=V (c,o,n))(ob):
  qaf M ⟨M.w.putObj c ob,⟨M.H.A,λk=>if k=b then U else M.H.G k,M.H.O⟩,M.β⟩/\MRel ⟨M.w.putObj c ob,⟨M.H.A,λk=>if k=b then U else M.H.G k,M.H.O⟩,M.β⟩:=by
 have p:M.own c:= .inr ⟨b,_,o,n,r,m⟩;have s:qaf M ⟨M.w.putObj c ob,⟨M.H.A,λk=>if k=b then U else M.H.G k,M.H.O⟩,M.β⟩:=by
  refine⟨rfl,rfl,rfl,wb,λt j u=>⟨KE (λe=>u (e ▸p)),?_⟩,λ_ h=>h,λl d v a=>?_,rfl,λt j=>KE (λe=>h.odis b _ c o n r m (e ▸j))⟩
  .rintro(w | ⟨l,f,g,i,a,q⟩)
   .exact u (.inl w)
   by_cases e:l=b
   .grind
   .simp[e] at a;exact u (.inr ⟨l,f,g,i,a,q⟩)
  grind
 refine⟨s,h.change s b (h.dom b _ r) ?_ ?_ ?_ ?_ ?_ ?_⟩
 .grind
 .simp
 .intro l f t g i e a j;exact KE (λx=>e (h.inj l b f _ c g i o n a r (x ▸j) m))
 .simp
 .simp
 simp
def Mem.setO(M:Mem)(c:Nat)(ob:Obj):Mem:=⟨M.w.putObj c ob,M.H,M.β⟩
def VRel.setO{M c ob}(f:M.H.O c){x v}(h:VRel M x v):VRel (M.setO c ob) x v:=by
 induction h with
 | p x v h=>exact .p x v (h.step wb λB _ s=>⟨KE (λe=>s (.inl (e ▸f))),s⟩)
 | ref b g o l v a d h=>exact .ref b g o l v a d h
 | ptr b g r j v a d h=>exact .ptr b g r j v a d h
 | mp b v a d h=>exact .mp b v a d h
 | clo t first i u vc w f C D y z=>exact .clo t first i u vc w f y z
 | agg k m n A r q=>exact .agg k m n A q
 | tup k m n r q=>exact .tup k m n q
 | dead v=>exact .dead v
def BRel.setO{M c ob}(p:M.H.O c){b d}(B: ∀o n,M.β b≠V (c,o,n))(r:BRel M b d):BRel (M.setO c ob) b d:=by
 have s: ∀a o n,M.β b=V (a,o,n)->(M.setO c ob).w.heap[a]? =M.w.heap[a]? :=λa o n e=>KE (λt=>B o n (t ▸e))
 cases d with
 | arr X C A=>
   obtain⟨D,E,F⟩:=r;refine⟨D,E,λa o n h=>?_⟩;obtain⟨G,H,q,g,l,u,I⟩:=F a o n h;refine⟨G,H,(s a o n h).trans q,g,l,u,λi w j x m K=>?_⟩;obtain⟨v,L,N,O⟩:=I i w j x m K;exact⟨v,L,N,O.setO p⟩
 | mp es=>
   obtain⟨a,o,n,h,y,f,q,g,l⟩:=r;refine⟨a,o,n,h,y,f,(s a o n h).trans q,g,λi k x m=>?_⟩;obtain⟨Q,R,t,S⟩:=l i k x m;exact⟨Q,R,t,S.setO p⟩
 | ob k vs=>
   obtain⟨a,o,n,h,z,T,q,g,l,u⟩:=r;exact⟨a,o,n,h,z,T,(s a o n h).trans q,g,l,λi x v m W=>(u i x v m W).setO p⟩
def MRel.setO{M c ob}(f:M.H.O c)(h:MRel M):MRel (M.setO c ob):=
 ⟨h.dom,λb a g=>(h.blk b a g).setO f λo n e=>h.odis b a c o n g e f,h.inj,λi d=>(by simpa[Mem.setO] using h.olt i d),h.odis⟩
def qaf.setO{M f c ob}(g:M.H.O c)(j:MRel M)(s:qaf M f):qaf (M.setO c ob) (f.setO c ob):=by
 refine⟨s.os,s.tape,s.output,by simpa[Mem.setO] using s.size,λa h i=>?_,s.dom,s.comp,s.oeq,λa h=>?_⟩
 .have d:=by simpa[Mem.setO] using h
  obtain⟨k,l⟩:=s.keep a d i;have b:a≠c:=λe=>i (.inl (e ▸g))
  refine⟨?_,l⟩;simp[Mem.setO];rw[KE b,KE b,k]
 .by_cases e:a=c
  .subst e;have d:=j.olt a g;simp[Mem.setO];rw[KF d,KF (KM d s.size)]
  .simp[Mem.setO];rw[KE e,KE e,s.ofix a h]
def HRel.setO{M c ob nx m}(a:M.H.O c)(h:HRel nx m M):HRel nx m (M.setO c ob):=⟨h.rel.setO a,h.A,h.G⟩
def SRel.setO{M c ob S a}(e:M.H.O c)(f:S.d= [])(h:SRel h0 S M a):SRel h0 S (M.setO c ob) a:=by
 refine⟨h.heap.setO e,h.size,λi x g=>?_,?_⟩
 .obtain⟨v,j,k⟩:=h.slot i x g;exact⟨v,j,k.setO e⟩
 .have:=h.defs;rw[f] at this ⊢;cases b:a.defers with
  | nil=>trivial
  | cons d l=>rw[b] at this;exact this.elim
def qh5{R:IV->Value->Prop}: ∀(b:List Nat) (zs:List IV) (us:List Value) (s) (a:Array Value),us.length=zs.length->
  (∀(i:Nat) (x:IV) (v:Value),zs[i]? =V x->us[i]? =V v->R x v)->(∀t∈b,t < a.size)->(∀t x,look s t=V x-> ∃v,a[t]? =V v/\R x v)->
  ∀t x,look ((b.zip zs).reverse++s) t=V x-> ∃v,((b.zip us).foldl (λa p=>a.setIfInBounds p.1 p.2) a)[t]? =V v/\R x v
 | [],_,_,_,_,_,_,_,c,t,x,h=>by simp_all
 | _::_, [], [],_,_,_,_,_,c,t,x,h=>by simp_all
 | _::_, [],_::_,_,_,d,_,_,_,_,_,_=>by simp_all
 | _::_,_::_, [],_,_,d,_,_,_,_,_,_=>by simp_all
 | p::b,z::zs,u::us,s,a,d,g,j,c,t,x,h=>by
   simp only[List.zip_cons_cons,Kn,Kg] at h;refine qh5 b zs us ((p,z)::s) (a.setIfInBounds p u) wn (λi x v k l=>g (i+1) x v wn wn) (λt m=>by simp_all) ?_ t x h;intro t x f;simp only[look] at f;split at f
   .rename_i e;cases f;subst e;exact⟨u,wn,g 0 _ _ rfl rfl⟩
   simp_all
def qjh: ∀(l:List (Nat × Value)) (t:Array Value),(l.foldl (λt p=>t.setIfInBounds p.1 p.2) t).size=t.size
 | [],_=>rfl
 | p::l,t=>by simp;rw[qjh l];simp
def qlH{R:IV->Value->Prop}{g:Array Value}: ∀(b:List Nat) (vs) (us:List Value),us.length=vs.length->(∀(i:Nat) (t v),b[i]? =V t->us[i]? =V v->g[t]? =V v)->
  (∀(i:Nat) (x v),vs[i]? =V x->us[i]? =V v->R x v)-> ∀t x,look (b.zip vs) t=V x-> ∃v,g[t]? =V v/\R x v
 | [],_,_,_,_,_,t,x,h=>by simp[look] at h
 | _::_, [],_,_,_,_,t,x,h=>by simp[look] at h
 | _::_,_::_, [],c,_,_,_,_,_=>by grind
 | a::b,y::vs,u::us,c,j,k,t,x,h=>by
   simp[look] at h;split at h
   .rename_i e;cases h;subst e;exact⟨u,j 0 _ _ rfl rfl,k 0 _ _ rfl rfl⟩
   .exact qlH b vs us wg (λi t v d f=>j (i+1) t v wg wg) (λi x v d f=>k (i+1) x v wg wg) t x h
def qe3(n:Nat)(t p:List Nat)(vs zs:List IV)(nx:Nat):qab:=⟨n,(p.zip zs).reverse++t.zip vs, [],nx, []⟩
def nobK(b:Nat)(m:List (Nat × IBlk)):Prop:= ∀p∈m,qby (·≠b) p.2
def qlz:Exit->Option (Option Code)
 | .normal=>V U
 | .ret=>V (V .ret)
 | .exit id=>V (V (.exit id))
 | .goto l=>V (V (.goto l))
 | _=>U
def qpR{b m}(h:nobK b m){k a}(c:look m k=V a):qby (·≠b) a:=h _ (look_mem c)
def iops_yield{a4:Array Oper}{o:Oper}{r:List Oper}{S:qab}{Q:Exit->qab->Prop}{f:Operand}{args:List Operand}{ts:Array TypeId}{b n:Nat}{tl L:List Nat}{as bo:Code}{vs zs:List IV}
  (ho:o.op= .call {callee:= .value f,args:=⟨args⟩,argTypes:=ts}) (hw:qam a4 S.s o=V Y) (hf:ev S.s f=V (.mp b)) (hb:look (S.l++h0.m) b=V (.ob (.lp n tl L as bo U) vs))
  (ha:rlist (ev S.s) args=V zs) (hl:zs.length=L.length) (d0: ∀t∈L,t < n) (d1:ndC as=Y) (d2:ndC bo=Y) (hd:qaC S o.dst=Y)
  (h:qbi P ⟨S.nx,outK b (S.l++h0.m)⟩ as (qe3 n tl L vs zs S.nx) λe S2=>e= .normal/\S2.d= []/\qbi P ⟨S.nx,outK b (S.l++h0.m)⟩ bo S2 λe S3=>
   nobK b (S3.l++outK b (S.l++h0.m))/\S.nx<=S3.nx/\(match qlz e with
    | some U=>IOps P h0 a4 r (S.put o.dst (scb Y) S3.nx S3.l) Q
    | some (V j)=>IOps P h0 a4 r (S.put o.dst (scb Z) S3.nx ((b, .ob (.lp n tl L as bo (V j)) vs)::S3.l)) Q
    | none=>False)):IOps P h0 a4 (o::r) S Q:=by
 intro M0 d3 M a hs hr ro d4;have hM:=hr.heap.rel;have hG:M.H.G b=V (.ob (.lp n tl L as bo U) vs):=by rw[hr.heap.G];exact hb
 have c7:=hM.dom _ _ hG;obtain⟨c,oo,nn,G,ob,us,q1,⟨fn,tmps,D,rfl,qn,ql,qt⟩,q3,q4⟩:=hM.blk b _ hG;have a5:M.own c:= .inr ⟨b,_,oo,nn,hG,G⟩;have hc:=hM.lt a5;have N:=qaF hr.slot hf;have ef:a.eval f= .func (.yield c) #[] #[]:=by
  generalize a.eval f=q at N;cases N with
  | mp b v hA N h=>
    obtain⟨_,c',o',n',g1,g2⟩:=h _ hG;rw[G] at g1;cases g1;exact g2
 obtain⟨l1,l2⟩:=qbt (M:=M) (a:=a) ha λy _ z hz=>qaF hr.slot hz;have c8:(execOp a.eval o).run P M.w= .ok (.round c fn ((L.zip (args.map a.eval)).foldl (λtm p=>tm.setIfInBounds p.1 p.2) tmps) as bo) M.w:=by
  have hy:=run_yield (P:=P) (w:=M.w) (args:=⟨args.map a.eval⟩) q1 (by simp only[Ko];omega);simp only[execOp,ho,resolve,ef,Deferred.ofValue,KS,KT,KX,invoke];simp only[List.append_toArray,Kh,K0,Kp,K1];rw[hy];simp[List.zip_toArray]
 refine wpListIn_step λK hK=>?_;rw[if_pos (qbd hr hw)];have hnd:ndOp o=Y:=by unfold ndOp;rw[ho]
 refine⟨λ_ _=>trivial,?_⟩;rw[show o.semAt (Wd ro).round a.eval=execOp a.eval o from ql4 (.inr hnd),c8];refine⟨λh=>wu,roundIn_of_wpIn trivial ?_⟩;let C:Mem:=⟨M.w,⟨M.H.A,λk=>if k=b then U else M.H.G k,λx=>M.H.O x\/x=c⟩,M.β⟩;have a3:C.H.O c:= .inr rfl;have a6: ∀x,C.own x->M.own x:=by
  rintro x ((h | rfl) | ⟨k,d,o',n',A,O⟩)
  .exact .inl h
  .exact a5
  .simp only[C] at A O;split at A
   .cases A
   .exact .inr ⟨k,d,o',n',A,O⟩
 have F: ∀ {x:IV} {v:Value},VRel M x v->VRel C x v:=by
  intro x v hx;induction hx with
  | p x v h=>exact .p x v (h.own' a6)
  | ref b' g d5 d6 v hA N h=>exact .ref b' g d5 d6 v hA N λd s=>h d wB
  | ptr b' g r j v hA N h=>exact .ptr b' g r j v hA N λd s=>h d wB
  | mp b' v hA N h=>exact .mp b' v hA N λd s=>h d wB
  | clo fn first d7 vf vc hf hc rf rc i1 i2=>exact .clo fn first d7 vf vc hf hc i1 i2
  | agg cs vs hl A r ih=>exact .agg cs vs hl A ih
  | tup cs vs hl r ih=>exact .tup cs vs hl ih
  | dead v=>exact .dead v
 have Ga: ∀k,C.H.G k=look (outK b (S.l++h0.m)) k:=by
  intro k;rw[qdK];simp only[C];split
  .rfl
  .exact hr.heap.G k
 have c9:C.H.G b=U:=by simp[C]
 have a7:MRel C:=by
  refine⟨λk d B=>?_,λk d B=>?_,λk k' d I c' o1 n1 o2 n2 A O R c2=>?_,λx hx=>?_,λk d c' o1 n1 A R hO=>?_⟩
  .simp only[C] at B;split at B;cases B;exact hM.dom k d B
  .simp only[C] at B;split at B
   .cases B
   .rename_i X;have b6:=hM.blk k d B;cases d with
    | arr sz f8 f6=>
      obtain⟨r1,r2,r3⟩:=b6;refine⟨r1,r2,λc' o' n' a8=>?_⟩;obtain⟨cs,ty,p1,p2,p3,p4,p5⟩:=r3 c' o' n' a8;refine⟨cs,ty,p1,p2,p3,p4,λi d8 j x hi hj=>?_⟩;obtain⟨v,v1,v2,v3⟩:=p5 i d8 j x hi hj;exact⟨v,v1,v2,F v3⟩
    | mp es=>
      obtain⟨c',o',n',a8,d9,b7,p1,p2,p3⟩:=b6;refine⟨c',o',n',a8,d9,b7,p1,p2,λi k x hi=>?_⟩;obtain⟨en,e1,e2,e3⟩:=p3 i k x hi;exact⟨en,e1,e2,F e3⟩
    | ob k vs=>
      obtain⟨c',o',n',a8,e0,e4,p1,p2,p3,p4⟩:=b6;exact⟨c',o',n',a8,e0,e4,p1,p2,p3,λi x v hi N=>F (p4 i x v hi N)⟩
  .simp only[C] at A O;split at A
   .cases A
   .split at O
    .cases O
    .exact hM.inj k k' d I c' o1 n1 o2 n2 A O R c2
  .rcases hx with hx | rfl
   .exact hM.olt x hx
   .exact hc
  .simp only[C] at A;split at A
   .cases A
   .rename_i X;rcases hO with hO | rfl
    .exact hM.odis k d c' o1 n1 A R hO
    .exact X (hM.inj k b d _ c' o1 n1 oo nn A hG R G)
 have b8:HRel S.nx (outK b (S.l++h0.m)) C:=⟨a7,hr.heap.A,Ga⟩;have e6:SRel ⟨S.nx,outK b (S.l++h0.m)⟩ (qe3 n tl L vs zs S.nx) C {tmps:=(L.zip (args.map a.eval)).foldl (λtm p=>tm.setIfInBounds p.1 p.2) tmps,defers:= []}:=by
  refine⟨by simpa[qe3] using b8,by simp only[qe3];rw[qjh];exact qn,λt x hx=>?_,trivial⟩;exact qh5 L zs (args.map a.eval) (tl.zip vs) tmps l1 (λi x v hi N=>F (l2 i x v hi N)) (λt ht=>by rw[qn];exact d0 t ht)
   (qlH tl vs us q3 (λi t v hi N=>qt i t v hi N) λi x v hi N=>F (q4 i x v hi N)) t x hx
 refine wpIn_mono (h C b8 C _ (.refl C) e6 (V c) (.inr d1)) ?_;rintro e a1 w1 ⟨M2,S2,rfl,b9,e7,rfl,e8,c0⟩;have O2:M2.H.O=C.H.O:=b9.oeq;have c2:M2.w.heap[c]? =M.w.heap[c]? :=b9.ofix c a3;have e9:M2.H.O c:=by rw[O2];exact a3
 refine⟨_,run_beginRound (c2.trans q1) rfl,?_⟩;have f0:=b9.setO (ob:= .loop {state:= .busy,pending:=U,fn,tmps,params:=⟨L⟩,assign:=as,body:=bo,defers:=D}) a3 a7;refine wpIn_mono (c0 (C.setO c _) (b8.setO a3) (M2.setO c (.loop {state:= .busy,pending:=U,fn,tmps,params:=⟨L⟩,assign:=as,body:=bo,defers:=D})) a1 f0 (e7.setO e9 e8) (V c) (.inr d2)) ?_;rintro e a2 w2 ⟨T,S4,rfl,E,H,f1,f9,hq⟩;have O4:T.H.O=C.H.O:=E.oeq;have c4:T.w.heap[c]? =V (.loop {state:= .busy,pending:=U,fn,tmps,params:=⟨L⟩,assign:=as,body:=bo,defers:=D}):=
  (E.ofix c a3).trans (KF hc)
 have b0:T.H.O c:=by rw[O4];exact a3
 have G4:T.H.G b=U:=by
  cases hg:T.H.G b with
  | none=>rfl
  | some d=>
    obtain⟨f7,g0,_⟩:=E.comp b d c7 hg;simp only[Mem.setO] at g0;rw[c9] at g0;cases g0
 have c3:M.w.heap.size<=T.w.heap.size:=by have:=E.size;simpa[Mem.setO,C] using this
 have f2: ∀(m:Option Code) (ob:Obj),ob= .loop {state:=(match m with | none=> .ready | some _=> .done),pending:=m,fn,tmps,params:=⟨L⟩,assign:=as,body:=bo,defers:=D}->
   ∃u:Mem,u.w=T.w.putObj c ob/\qaf M u/\(∀k,u.H.G k=if k=b then V (.ob (.lp n tl L as bo m) vs) else T.H.G k)/\MRel u/\(∀k,u.H.A k↔T.H.A k):=by
  intro m ob f3;let u:Mem:=⟨T.w.putObj c ob,⟨T.H.A,λk=>if k=b then V (.ob (.lp n tl L as bo m) vs) else T.H.G k,M.H.O⟩,λk=>if k=b then M.β b else T.β k⟩;have b3: ∀x,u.own x->T.own x:=by
   rintro x (hO | ⟨k,d,o',n',A,O⟩)
   .exact .inl (by rw[O4];exact .inl hO)
   .by_cases e:k=b
    .simp only[u,e,if_true] at A O;rw[G] at O;cases O;exact .inl b0
    .simp only[u,e,if_false] at A O;exact .inr ⟨k,d,o',n',A,O⟩
  have a9:qaf M u:=by
   refine⟨E.os,E.tape,E.output,by simpa[u] using c3,λx hx b4=>?_,λk B=>E.dom k B,λk I hA B=>?_,rfl,λx hx=>?_⟩
   .have X:x≠c:=λe=>b4 (e ▸a5)
    have A:=E.keep x (by simpa[Mem.setO,C] using hx) (λho=>b4 (a6 x ho));refine⟨?_,λho=>A.2 (b3 x ho)⟩;simp only[u];rw[KE X,A.1];exact KE X
   .by_cases e:k=b
    .subst e;simp only[u,if_true,Option.some.injEq] at B;subst B;exact⟨_,hG,rfl,rfl,KI _,λ_=>⟨by simp[u],rfl⟩⟩
    .simp only[u,e,if_false] at B ⊢;obtain⟨d,g0,g1,g2,g3,g4⟩:=E.comp k I hA B;simp only[Mem.setO,C,e,if_false] at g0;exact⟨d,g0,g1,g2,g3,g4⟩
   .have X:x≠c:=λe=>hM.odis b _ c oo nn hG G (e ▸hx)
    have A:=E.ofix x (.inl hx);simp only[u];rw[KE X,A];exact KE X
  have al:qhN (·≠b) (T.setO c ob) u:=by
   refine⟨rfl,λk _ h=>h,λk B=>by simp[u,Mem.setO,B],λk B=>by simp[u,Mem.setO,B],λx hx=>b3 x hx⟩
  have r4:=H.heap.rel.setO (ob:=ob) b0;refine⟨u,rfl,a9,λk=>rfl,⟨λk d B=>?_,λk d B=>?_,λk k' d I c' o1 n1 o2 n2 A O R c2=>?_,λx hx=>?_,λk d c' o1 n1 A R hO=>?_⟩,λk=>Iff.rfl⟩
  .by_cases e:k=b
   .subst e;exact E.dom k c7
   .simp only[u,e,if_false] at B;exact H.heap.rel.dom k d B
  .by_cases e:k=b
   .subst e;simp only[u,if_true,Option.some.injEq] at B;subst B;refine⟨c,oo,nn,by simp[u,G],ob,us,?_,⟨fn,tmps,D,f3,qn,ql,qt⟩,q3,λi x v hi N=>(q4 i x v hi N).step a9⟩;exact KF (KM hc c3)
   .simp only[u,e,if_false] at B;refine BRel.alike al e (r4.blk k d B) ?_;exact qpR f1 (by rw[<-H.heap.G];exact B)
  .by_cases e1:k=b<;>by_cases e2:k'=b
   .rw[e1,e2]
   .simp only[u,e1,e2,if_true,if_false] at A O R c2;rw[G] at R;cases R;exact absurd b0 (H.heap.rel.odis k' I c o2 n2 O c2)
   .simp only[u,e1,e2,if_true,if_false] at A O R c2;rw[G] at c2;cases c2;exact absurd b0 (H.heap.rel.odis k d c o1 n1 A R)
   .simp only[u,e1,e2,if_false] at A O R c2;exact H.heap.rel.inj k k' d I c' o1 n1 o2 n2 A O R c2
  .have:=KM (hM.olt x hx) c3;simpa[u] using this
  .by_cases e:k=b
   .simp only[u,e,if_true] at A R;rw[G] at R;cases R;exact hM.odis b _ c oo nn hG G hO
   .simp only[u,e,if_false] at A R;exact H.heap.rel.odis k d c' o1 n1 A R (by rw[O4];exact .inl hO)
 have lb:look S4.l b=U:=by
  have:=H.heap.G b;rw[G4,qae] at this;cases f4:look S4.l b with
  | none=>rfl
  | some x=>rw[f4] at this;cases this
 have c5: ∀(u:Mem) (m:Option Code) (W:List (Nat × IBlk)),MRel u->(∀k,u.H.A k↔T.H.A k)->(∀k,u.H.G k=if k=b then V (.ob (.lp n tl L as bo m) vs) else T.H.G k)->
   (look (W++S.l++h0.m) b=V (.ob (.lp n tl L as bo m) vs))->(∀k,k≠b->look W k=look S4.l k)->HRel S4.nx (W++S.l++h0.m) u:=by
  intro u m W r5 A5 G5 c6 hW;refine⟨r5,λk B=>H.heap.A k ((A5 k).1 B),λk=>?_⟩;rw[G5];by_cases e:k=b
  .rw[if_pos e,e,c6]
  .rw[if_neg e,H.heap.G,Kg,qae,qae,hW k e,qdK,if_neg e]
 have b1: ∀(m:Option Code) (ok:Bool) (W:List (Nat × IBlk)),ok=m.isNone->(look (W++S.l++h0.m) b=V (.ob (.lp n tl L as bo m) vs))->(∀k,k≠b->look W k=look S4.l k)->
   IOps P h0 a4 r (S.put o.dst (scb ok) S4.nx W) Q->
   ∃v w',(Instr.endRound c m).run P T.w= .ok v w'/\K (a.put o.dst v) w':=by
  intro m ok W f5 c6 hW hq;obtain⟨u,e5,a9,G5,r5,A5⟩:=f2 m _ rfl;have he:=run_endRound (P:=P) m c4;refine⟨_,_,he,?_⟩;have b5:=hK _ _ (hq M0 d3 u _ (hs.trans a9) (hr.step a9 hd (.p _ _ (.sc (.bool ok))) (c5 u m W r5 A5 G5 c6 hW)) ro d4.tl);rw[e5,f5] at b5;cases m<;>exact b5
 have b2: ∀k,k≠b->look S4.l k=look S4.l k:=λ_ _=>rfl
 have a0: ∀(x:IBlk) k,k≠b->look ((b,x)::S4.l) k=look S4.l k:=λx k e=>by simp only[look];rw[if_neg (λh=>e h.symm)]
 cases e with
 | normal=>exact b1 U Y S4.l rfl (by rw[Kg,qae,lb];exact hb) b2 hq
 | ret=>exact b1 (V .ret) Z ((b,_)::S4.l) rfl vb (a0 _) hq
 | exit id=>exact b1 (V (.exit id)) Z ((b,_)::S4.l) rfl vb (a0 _) hq
 | goto l=>exact b1 (V (.goto l)) Z ((b,_)::S4.l) rfl vb (a0 _) hq
 | panic ch=>exact hq.elim
 | outgrown=>exact hq.elim
def ifnv:IV->Option (FuncId × List IV × List IV)
 | .p (.sc (.func (.func n) ⟨[]⟩ ⟨[]⟩))=>V (n, [], [])
 | .clo (.func n) first c=>V (n,first,c)
 | _=>U
def qqM{M x v n first cap}(h:ifnv x=V (n,first,cap))(c:VRel M x v):
  ∃a vc:List Value,v= .func (.func n) ⟨a⟩ ⟨vc⟩/\a.length=first.length/\vc.length=cap.length/\(∀(i:Nat) (x v),first[i]? =V x->a[i]? =V v->VRel M x v)/\
   (∀(i:Nat) (x v),cap[i]? =V x->vc[i]? =V v->VRel M x v):=by
 unfold ifnv at h;split at h
 .have:=c.sc_inv
  grind
 .cases c<;>grind
 grind
def look_none0{M0 M}(a:HRel h0.nx h0.m M0)(d:qaf M0 M){b nx}(e: ∀k,M.H.A k->k < nx)(f:nx<=b):look h0.m b=U:=by
 cases h:look h0.m b with
 | none=>rfl
 | some c=>
   have:=a.rel.dom b c (by rw[a.G];omega);have:=e b (d.dom b this);omega
def qf4(s:List (Nat × IV)):List Nat->List IV->Prop
 | [], []=>True
 | t::a,x::v=>look s t=V x/\qf4 s a v
 | _,_=>False
def qh0{s}: ∀ {t vs},qf4 s t vs->t.length=vs.length
 | [], [],_=>rfl
 | _::_,_::_,h=>by simp[qh0 h.2]
 | [],_::_,h=>h.elim
 | _::_, [],h=>h.elim
def qff{s}: ∀ {a vs},qf4 s a vs-> ∀(i:Nat) (t x),a[i]? =V t->vs[i]? =V x->look s t=V x
 | [],_,_,i,t,x,h,_=>by grind
 | _::_, [],h,_,_,_,_,_=>h.elim
 | _::a,_::vs,h,0,t,x,b,c=>by simp at b c;subst b c;exact h.1
 | _::a,_::vs,h,i+1,t,x,b,c=>qff h.2 i t x wg wg
def qfH(S:qab)(n:Nat)(l':List (Nat × IBlk)):qab:= {S with d:=qov S.nx::S.d,nx:=n,l:=outK (S.nx+1) (l'++(S.nx, .ob .df [])::S.l)}
def irun_rangeFunc{g:Operand}{q G:List Nat}{r s:Code}{k:List It}{S:qab}{Q:Exit->qab->Prop}{x:IV}{R:FuncId}{first cap vs:List IV}
  (hg:ev S.s g=V x) (hx:ifnv x=V (R,first,cap)) (a8:fnOk P R=Y) (hc:qf4 S.s G vs)
  (h:qa5 P R (first++ [.mp (S.nx+1)]++cap) ⟨S.nx+2,(S.nx+1, .ob (.lp S.n G q r s U) vs)::(S.nx, .ob .df [])::(S.l++h0.m)⟩ λe w l'=>match e with
   | .ret _=> ∃n' I z A B p vs',look (l'++ [(S.nx+1, .ob (.lp S.n G q r s U) vs)]) (S.nx+1)=V (.ob (.lp n' I z A B p) vs')/\(match p with
     | none=>IRun P h0 k (qfH S w l') Q
     | some c=>IRun P h0 (.code c::k) (qfH S w l') Q)
   | .pan _=>False):IRun P h0 (.code (.rangeFunc g ⟨q⟩ r s)::k) S Q:=by
 intro M0 T M a hs m ro a9;obtain rfl:ro=U:=a9.resolve_right ww;have hM:=m.heap.rel;obtain⟨vf,vc,b0,lf,lc,rf,rc⟩:=qqM hx (qaF m.slot hg);have b1: ¬M.H.A S.nx:=λh=>KN _ (m.heap.A _ h)
 obtain⟨s1,r1⟩:=qgt hM S.nx b1 (k:= .df) (vs:= []) (us:= []) (ob:= .deferred (V [])) ⟨rfl,rfl⟩ rfl (λi x v d=>by simp at d);refine wpIn_rangeFunc ?_;intro fn _;let H:Mem:=⟨M.w.alloc (.deferred (V [])),M.H.put S.nx (.ob .df []),putβ M.β S.nx (V (M.w.heap.size,0,0))⟩;have b2: ¬H.H.A (S.nx+1):=by
  rintro(h | h)
  .have:=m.heap.A _ h;omega
  .omega
 have b3:=qh0 hc;obtain⟨s2,r2⟩:=qgt (M:=H) r1 (S.nx+1) b2 (k:= .lp S.n G q r s U) (vs:=vs) (us:=G.map λt=>a.tmps.getD t undef)
  (ob:= .loop {state:= .ready,pending:=U,fn,tmps:=a.tmps,params:=⟨q⟩,assign:=r,body:=s,defers:=M.w.heap.size})
  ⟨fn,a.tmps,M.w.heap.size,rfl,m.size,wb,λi t v d j=>by
   rw[Kf,d] at j;simp only[KV,Option.some.injEq] at j;have b4:=qad d;obtain⟨u,N,_⟩:=m.slot t _ (qff hc i t _ d (Ka (show i < vs.length by omega)));rw[<-j,N];simp only[K3,N,KW]⟩ (by simp[b3]) (λi x v d j=>by
   rw[Kf] at j;have b4:=qad d;have W:=Ka (show i < G.length by omega);rw[W] at j;simp only[KV,Option.some.injEq] at j;obtain⟨u,N,u2⟩:=m.slot _ _ (qff hc i _ x W d);simp only[K3,N,KW] at j;rw[<-j];exact u2.step s1)
 have b5:H.w.heap.size=M.w.heap.size+1:=by simp[H]
 obtain⟨f,n⟩: ∃f:Mem,f=⟨H.w.alloc (.loop {state:= .ready,pending:=U,fn,tmps:=a.tmps,params:=⟨q⟩,assign:=r,body:=s,defers:=M.w.heap.size}),
  H.H.put (S.nx+1) (.ob (.lp S.n G q r s U) vs),putβ H.β (S.nx+1) (V (H.w.heap.size,0,0))⟩:=⟨_,rfl⟩
 rw[<-n] at s2 r2;have w2:f.w=(M.w.alloc (.deferred (V []))).alloc (.loop {state:= .ready,pending:=U,fn,tmps:=a.tmps,params:=⟨q⟩,assign:=r,body:=s,defers:=M.w.heap.size}):=by rw[n]
 have X:f.β (S.nx+1)=V (M.w.heap.size+1,0,0):=by rw[n];simp[putβ,b5]
 have a0:f.β S.nx=V (M.w.heap.size,0,0):=by rw[n];simp[putβ,H]
 have O: ∀b,f.H.G b=look ((S.nx+1, .ob (.lp S.n G q r s U) vs)::(S.nx, .ob .df [])::(S.l++h0.m)) b:=by
  intro b;rw[n];simp only[AH.put,H,look];by_cases e1:b=S.nx+1
  .rw[if_pos e1,if_pos e1.symm]
  .rw[if_neg e1,if_neg (show ¬(S.nx+1=b) from λh=>e1 h.symm)];by_cases e2:b=S.nx
   .rw[if_pos e2,if_pos e2.symm]
   .rw[if_neg e2,if_neg (show ¬(S.nx=b) from λh=>e2 h.symm)];exact m.heap.G b
 have A2: ∀b,f.H.A b->b < S.nx+2:=by
  intro b l;rw[n] at l;rcases l with (l | l) | l
  .have:=m.heap.A b l;omega
  .omega
  .omega
 have b6:HRel (S.nx+2) ((S.nx+1, .ob (.lp S.n G q r s U) vs)::(S.nx, .ob .df [])::(S.l++h0.m)) f:=⟨r2,A2,O⟩;have C:qaf M f:=s1.trans s2;have a1:f.H.A (S.nx+1):=r2.dom _ (.ob (.lp S.n G q r s U) vs) (by rw[O];simp only[look,if_true]);have vy:VRel f (.mp (S.nx+1)) (.func (.yield (M.w.heap.size+1)) #[] #[]):=by
  refine .mp _ _ a1 ⟨2,_,rfl⟩ λb7 l=>?_;rw[O] at l;simp only[look,if_true,Option.some.injEq] at l;subst l;exact⟨vt,_,_,_,X,rfl⟩
 refine⟨M.w.heap.size+1, [{target:= .collected M.w.heap.size,args:=#[]}],f.w, {target:= .fn (.func R) ⟨vc⟩,args:=⟨vf++ [.func (.yield (M.w.heap.size+1)) #[] #[]]⟩},f.w,R,
  ⟨vf++ [.func (.yield (M.w.heap.size+1)) #[] #[]]++vc⟩,f.w,?_,?_,λ_ _=>trivial,?_,λh=>wu,qld ?_⟩
 .rw[w2];exact run_enterLoop_outer _ _ _ _ _
 .simp only[resolve,rangeCall,b0,Deferred.ofValue];simp[Act.eval]
 .simp only[invoke];rw[qbZ a8];simp
 .have a2: ∀(i:Nat) (x:IV) (v:Value),(first++ [.mp (S.nx+1)]++cap)[i]? =V x->(vf++ [.func (.yield (M.w.heap.size+1)) #[] #[]]++vc)[i]? =V v->VRel f x v:=by
   refine qbM (by simp only[Kj,Kq,lf]) (qbM lf (λi x v d j=>(rf i x v d j).step C) ?_) λi x v d j=>(rc i x v d j).step C;intro i x v d j;cases i with
   | zero=>simp only[Kc,Option.some.injEq] at d j;subst d j;exact vy
   | succ i=>simp at d
  have a3:(vf++ [Value.func (.yield (M.w.heap.size+1)) #[] #[]]++vc).length=(first++ [IV.mp (S.nx+1)]++cap).length:=by simp only[Kj,Kq,lf,lc]
  have K:=h f _ b6 a3 a2;refine Calls.mono K ?_;rintro e w' ⟨L,w,l',re,rfl,D,E,he,hq⟩;cases re with
  | pan ch=>exact hq.elim
  | ret x=>
    obtain⟨v,rfl,_⟩:=he;obtain⟨n',I,z,A,B,p,vs',o,hq⟩:=hq;have G3:L.H.G (S.nx+1)=V (.ob (.lp n' I z A B p) vs'):=by
     rw[E.G,qae];rw[qae] at o;cases hl:look l' (S.nx+1) with
     | some y=>rw[hl] at o;exact o
     | none=>rw[hl] at o;simp only[look,if_true] at o ⊢;exact o
    obtain⟨b9,g0,_,_,_,g4⟩:=D.comp _ _ a1 G3;rw[O] at g0;simp only[look,if_true,Option.some.injEq] at g0;subst g0;have a4:L.β (S.nx+1)=V (M.w.heap.size+1,0,0):=by rw[(g4 rfl).1];exact X
    obtain⟨c,oo,nn,a5,ob,us,q1,⟨a6,F,D',rfl,_⟩,_⟩:=E.rel.blk _ _ G3;rw[a4] at a5;cases a5;have a7:=run_endLoop (P:=P) q1 (by cases p<;>simp);obtain⟨s4,r4⟩:=mem_drop E.rel G3 a4 (.loop {state:= .exhausted,pending:=p,fn:=a6,tmps:=F,params:=⟨z⟩,assign:=A,body:=B,defers:=D'});have st:=(hs.trans C).trans (D.trans s4);have b8:look h0.m (S.nx+1)=U:=look_none0 T hs m.heap.A (Nat.le_succ _);have hS:SRel h0 (qfH S w l') ⟨L.w.putObj (M.w.heap.size+1) (.loop {state:= .exhausted,pending:=p,fn:=a6,tmps:=F,params:=⟨z⟩,assign:=A,body:=B,defers:=D'}),⟨L.H.A,λk=>if k=S.nx+1 then U else L.H.G k,L.H.O⟩,L.β⟩
      {a with defers:= [{target:= .collected M.w.heap.size,args:=#[]}]++a.defers}:=by
     refine⟨⟨r4,E.A,λb=>?_⟩,m.size,λi y d=>?_,?_,m.defs.step (C.trans (D.trans s4))⟩
     .simp only[qfH];rw[qae,qdK];by_cases e:b=S.nx+1
      .rw[if_pos e,if_pos e];exact(by rw[e,b8])
      .rw[if_neg e,if_neg e,E.G,<-qae,Kg,qae,qae];cases look l' b with
       | some y=>rfl
       | none=>simp only[look];rw[if_neg (λh=>e h.symm)];rfl
     .obtain⟨u,N,u2⟩:=m.slot i y d;exact⟨u,N,u2.step (C.trans (D.trans s4))⟩
     .have vm:VRel f (.mp S.nx) (hnd 4 M.w.heap.size):=by
       refine .mp _ _ (r2.dom _ (.ob .df []) (by rw[O];simp[look])) ⟨4,_,rfl⟩ λb7 l=>?_;rw[O] at l;simp only[look,Nat.succ_ne_self,if_true,if_false,Option.some.injEq] at l;subst l;exact⟨vt,_,_,_,a0,rfl⟩
      exact⟨S.nx,M.w.heap.size,rfl,rfl,vm.step (D.trans s4)⟩
    refine⟨p,_,a7,?_⟩;cases p with
    | none=>exact⟨_,qfH S w l',rfl,st,hS,hq⟩
    | some c=>exact hq M0 T _ _ st hS U (.inl rfl)
def qlI:IDef->Option Nat
 | ⟨.yield _, [], [.mp b]⟩=>V b
 | _=>U
def qmZ{x b}(h:qlI x=V b): ∃y,x=⟨.yield y, [], [.mp b]⟩:=by
 unfold qlI at h
 grind
def qcr(h:IH):List IDef->List (Nat × IBlk)->Option (List (Nat × IBlk))
 | [],l=>V l
 | x::d,l=>match qlI x with
   | some b=>match look l b with
     | some (.ob .df [])=>match KJ h.nx b with
       | true=>qcr h d (outK b l)
       | false=>U
     | _=>U
   | none=>U
def qgr{fn:Func}{R:Ending->World->Prop}{M0:Mem}(n:HRel h0.nx h0.m M0){N nx:Nat}{s:List (Nat × IV)}{H:List (Nat × IBlk)}: ∀(p:List IDef) (l:List (Nat × IBlk)) (M:Mem) (a:Act),qcr h0 p l=V H->qaf M0 M->SRel h0 ⟨N,s,p,nx,l⟩ M a->
  (∀M':Mem,qaf M0 M'->SRel h0 ⟨N,s, [],nx,H⟩ M' {a with defers:= []}->LeavesInM (Wd U) 0 P fn a.tmps R [] .returning M'.w)->LeavesInM (Wd U) 0 P fn a.tmps R a.defers .returning M.w
 | [],l,M,a,j,t,g,w=>by
   simp only[qcr,Option.some.injEq] at j;subst j;have e:a.defers= []:=by
    have:=g.defs;cases m:a.defers with
    | nil=>rfl
    | cons d p=>rw[m] at this;exact this.elim
   rw[e];refine w M t ⟨g.heap,g.size,g.slot,trivial⟩
 | x::p,l,M,a,j,t,g,w=>by
   unfold qcr at j;split at j
   .rename_i b e;obtain⟨y,rfl⟩:=qmZ e;split at j<;>try(cases j;done)
    rename_i z;split at j<;>try(cases j;done)
    rename_i A;have f:=g.defs;cases m:a.defers with
    | nil=>rw[m] at f;exact f.elim
    | cons d q=>
      rw[m] at f;obtain⟨B,o⟩:=f;obtain⟨O,D,Q,rfl,I⟩:=B;have S:b=O:=by
       have:=congrArg IDef.args Q;simpa[qov] using this
      subst S;have C:M.H.G b=V (.ob .df []):=by rw[g.heap.G,qae,z]
      obtain⟨c,oo,nn,r,ob,us,T,⟨_,rfl⟩,_⟩:=g.heap.rel.blk b _ C;have E:c=D:=by
       cases I with
       | mp b v hA I h=>
         obtain⟨_,c',o',n',K,L⟩:=h _ C;rw[r] at K;cases K;simp only[hnd,IBlk.isMp,Value.pointer.injEq,Option.some.injEq,Addr.mk.injEq] at L;exact L.1.symm
      subst E;obtain⟨F,W⟩:=mem_drop g.heap.rel C r (.deferred U);have X:SRel h0 ⟨N,s,p,nx,outK b l⟩ ⟨M.w.putObj c (.deferred U),⟨M.H.A,λk=>if k=b then U else M.H.G k,M.H.O⟩,M.β⟩ {a with defers:=q}:=by
       refine⟨⟨W,g.heap.A,λk=>?_⟩,g.size,λi y hi=>?_,o.step F⟩
       .simp only;rw[qae,qdK];by_cases e:k=b
        .rw[if_pos e,if_pos e];have:look h0.m k=U:=look_none0 n (.refl M0) n.A (by rw[e];exact KH A);rw[this]
        .rw[if_neg e,if_neg e,g.heap.G,qae]
       .obtain⟨u,u1,u2⟩:=g.slot i y hi;exact⟨u,u1,u2.step F⟩
      refine⟨wb, .inl ⟨c,_,rfl,run_takeDeferred T,?_⟩⟩;exact qgr n p (outK b l) _ {a with defers:=q} j (t.trans F) X λM' G h'=>w M' G h'
   .cases j
inductive FinM(P:Program)(fn:Func)(h:IH)(Q:IEnd->Nat->List (Nat × IBlk)->Prop):Exit->qab->Prop where
 | ret (e:Exit) (S:qab) (l1:List (Nat × IBlk)) (x y:IV) (ids:List Nat) (nx':Nat) (l':List (Nat × IBlk)) (he:e= .normal\/e= .ret) (hd:qcr h S.d S.l=V l1)
   (hx:ires P {S with d:= [],l:=l1} (l1++h.m) fn.results.toList=V x) (hl:qcD h ids {S with d:= [],l:=l1} x y nx' l') (hq:Q (.ret y) nx' l'):FinM P fn h Q e S
def qom{f fn c args h Q}(z:P.funcs[f]? =V fn)(A:fn.body=V c)(hn:args.length<=fn.ntmps)
  (B:qbi P h c (start fn.ntmps args h) (FinM P fn h Q)):qa5 P f args h Q:=by
 intro M l m C D;refine(callsIn_wide (n:=0)).1 (callsIn_of_wp_marks (F:=Wd U) (n:=0) z A trivial (wpIn_mono (B M m M {tmps:=(⟨l⟩)++Array.replicate (fn.ntmps - (⟨l⟩:Array Value).size) undef,defers:= []} (.refl M) ⟨by simpa[start] using m,?_,λi x E=>?_,trivial⟩ U (.inl rfl)) ?_))
 .simp[start];omega
 .obtain⟨_,p⟩:=qdJ args 0 i x E;have q:=qad p;refine⟨l[i]'wa,?_,D i x _ p (Ka wa)⟩
  grind
 .rintro e s w ⟨b,S,rfl,G,g,H⟩;cases H with
  | ret l1 x y I a o K L N d t=>
    have k:LeavesInM (Wd U) 0 P fn s.tmps (λe w=> ∃b a o r,b.w=w/\qaf M b/\HRel a (o++h.m) b/\qbU b r e/\Q r a o) s.defers .returning b.w:=by
     refine qgr m S.d S.l b s L G g λM2 u j=>?_;obtain⟨v,O,R⟩:=qfJ (P:=P) j N;obtain⟨T,W,X,k3,k4⟩:=qcg d.sub m u j;exact⟨v,O,T,a,o, .ret y,W,X,k3.heap,⟨v,rfl,k4 x y v R d.fz d.bel⟩,t⟩
    rcases K with rfl | rfl
    .exact k
    .exact k
def noB(b:Nat):IV->Bool
 | .p _=>Y
 | .ref c _ _ _=>!KK c b
 | .ptr c _ _ _=>!KK c b
 | .mp c=>!KK c b
 | .clo _ f c=>goN f && goN c
 | .agg a=>goN a
 | .tup a=>goN a
 | .dead=>Y
where goN:List IV->Bool
 | []=>Y
 | x::r=>noB b x && goN r
def nbeq{c b:Nat}(h:(!KK c b)=Y):c≠b:=by
 rintro rfl;simp_all
def noB_sound{b}(x):noB b x=Y->qbh (·≠b) x:=by
 apply IV.rec (motive_1:=λx=>noB b x=Y->qbh (·≠b) x) (motive_2:=λl=>noB.goN b l=Y->qaK (·≠b) l)
 .intro x _;trivial
 .intro c g o e h;exact nbeq vj
 .intro c g r j h;exact nbeq vj
 .intro c h;exact nbeq vj
 .intro m f c i a h;simp[noB] at h;exact⟨i h.1,a h.2⟩
 .intro k d h;exact d h
 .intro k d h;exact d h
 .intro _;trivial
 .intro _;trivial
 .intro x l i a h;simp[noB.goN] at h;exact⟨i h.1,a h.2⟩
def qgj{b}: ∀l:List IV,noB.goN b l=Y->qaK (·≠b) l
 | [],_=>trivial
 | x::r,h=>by simp[noB.goN] at h;exact⟨noB_sound x h.1,qgj r h.2⟩
def noBb(b:Nat):IBlk->Bool
 | .arr _ _ r=>r.all (noB.goN b)
 | .mp a=>a.all λe=>noB b e.2
 | .ob _ v=>noB.goN b v
def qoC{b a}(h:noBb b a=Y):qby (·≠b) a:=by
 cases a with
 | arr s g d=>exact λr c=>qgj r (List.all_eq_true.1 h r c)
 | mp i=>exact λe f=>noB_sound e.2 (List.all_eq_true.1 h e f)
 | ob k v=>exact qgj v h
def nobB(b:Nat)(m:List (Nat × IBlk)):Bool:=m.all λp=>noBb b p.2
def qoF{b m}(h:nobB b m=Y):nobK b m:=λp a=>qoC (List.all_eq_true.1 h p a)
def qjc{s}: ∀ {l:List (Nat × IV)},(∀p∈l,look s p.1=V p.2)->qf4 s (l.map (·.1)) (l.map (·.2))
 | [],_=>trivial
 | p::r,h=>⟨h p (Kb ..),qjc λq a=>h q (Ke _ a)⟩
end Go.Idl
namespace Go.Idl
variable{P:Program}{h0:IH}
def qbL{w c o}(h:w.heap[c]? =some o)(a:o.isCells=false:=by rfl):(getObj c).run P w= .ok o w:=by cases o<;>first | (cases a;done) | simp[getObj,Sem.run,h]
def qj7{w c o o'}(h:w.heap[c]? =some o)(a:o.isCells=false:=by rfl):(setObj c o').run P w= .ok () (w.putObj c o'):=by cases o<;>first | (cases a;done) | simp[setObj,Sem.run,h,World.putObj]
def qop{g:Array Oper}{o:Oper}{r:List Oper}{S:qab}{Q:Exit->qab->Prop}{t k e:TypeId}{x:Operand}{m:Nat}{es:List (Value × IV)}
  (F:o.op= .range t x) (G:qam g S.s o=V Y) (H:ev S.s x=V (.mp m)) (I:P.underlying t=V (.map k e)) (L:look (S.l++h0.m) m=V (.mp es)) (N:qaC S o.dst=Y)
  (h:IOps P h0 g r (S.put o.dst (.mp S.nx) (S.nx+1) [(S.nx, .ob (.it es.length [] es.length) [.mp m])]) Q):IOps P h0 g (o::r) S Q:=by
 intro O s M a R f T j;refine wpListW_step (j.mem (Kb ..)) λK W=>?_;rw[if_pos (qbd f G)];have B:M.H.G m=V (.mp es):=by rw[f.heap.G];exact L
 obtain⟨c,oo,nn,u,X,w,q1,⟨_,rfl⟩,_⟩:=f.heap.rel.blk m _ B;have l:=qaF f.slot H;have C:a.eval x= .map (V c):=by
  generalize a.eval x=q at l;cases l with
  | mp b v hA l h=>
    obtain⟨_,c',o',n',D,g2⟩:=h _ B;rw[u] at D;cases D;exact g2
 have z: ¬M.H.A S.nx:=λh=>KN _ (f.heap.A _ h)
 obtain⟨E,r1⟩:=qgt f.heap.rel S.nx z (k:= .it es.length [] es.length) (vs:= [.mp m]) (us:= [.map (V c)]) (ob:= .mapIter (V c) es.length #[] es.length) ⟨c,rfl,rfl⟩ rfl
  (λi y v A n=>by
   grind)
 have p:(execOp a.eval o).run P M.w= .ok (.value (.pointer (V ⟨M.w.heap.size,0,U⟩))) (M.w.alloc (.mapIter (V c) es.length #[] es.length)):=by
  simp only[execOp,F,C];unfold Instr.range;simp[KS,run_underlying I,qbL q1]
 unfold Oper.wp;rw[p];refine W _ _ (h O s _ _ (R.trans E) (f.step E N (.mp S.nx _ (.inr rfl) ⟨3,_,rfl⟩ λa0 d=>?_) ⟨r1,λb d=>?_,λb=>?_⟩) T j.tl)
 .simp only[AH.put,if_true,Option.some.injEq] at d;subst d;exact⟨vt,M.w.heap.size,0,0,wr,rfl⟩
 .rcases d with d | d
  .have:=f.heap.A b d;omega
  .omega
 .simp only[AH.put,Kd,Kh,look];by_cases e:b=S.nx
  .rw[if_pos e,if_pos e.symm]
  .rw[if_neg e,if_neg (show ¬(S.nx=b) from λh=>e h.symm)];exact f.heap.G b
def qbG(seen:List Nat)(n:Nat):List Nat:=(Kk n).filter λi=>!seen.contains i
def qmV{P}(l:List MapEntry)(k:Nat)(d: ∀(i:Nat) (e:MapEntry),l[i]? =V e->e.born=k+i)(p:Nat->Bool)(hp: ∀e∈l,P e=p e.born):
  l.filter P=((Kr k l.length).filter p).filterMap λi=>l[i - k]? :=by
 induction l generalizing k with
 | nil=>rfl
 | cons e l q=>
   have r:e.born=k:=by simpa using d 0 e rfl
   have f:=q (k+1) (λi c h=>by have:=d (i+1) c wn;omega) (λc h=>hp c (Ke _ h));have a:=hp e (Kb ..);rw[r] at a;have g: ∀m:List Nat,(∀i∈m,k+1<=i)->m.filterMap (λi=>(e::l)[i - k]?)=m.filterMap λi=>l[i - (k+1)]? :=by
    intro m;induction m with
    | nil=>simp
    | cons i m s=>
      intro n;have o:=n i (Kb ..)
      grind
   simp only[Ks,List.range'_succ,Kt]
   grind
def qjs{E:Array Oper}{o:Oper}{r:List Oper}{S:qab}{Q:Exit->qab->Prop}{x:Operand}{G R since last:Nat}{seen:List Nat}{es:List (Value × IV)}
  (ho:o.op= .next x Z) (hw:qam E S.s o=V Y) (hx:ev S.s x=V (.mp G)) (D:look (S.l++h0.m) G=V (.ob (.it since seen last) [.mp R])) (hb:look (S.l++h0.m) R=V (.mp es))
  (hl:es.length=since) (n:0 < last\/seen= []) (hd:qaC S o.dst=Y)
  (h:qbG seen es.length= []->IOps P h0 E r (S.put o.dst (.tup [scb Z]) S.nx []) Q)
  (h': ∀i k y,i∈qbG seen es.length->es[i]? =V (k,y)->IOps P h0 E r (S.put o.dst (.tup [scb Y, .p (.sc k),y]) S.nx [(G, .ob (.it since (seen++ [i]) es.length) [.mp R])]) Q):IOps P h0 E (o::r) S Q:=by
 intro M0 a1 M a hs w ro T;refine wpListW_step (T.mem (Kb ..)) λK hK=>?_;rw[if_pos (qbd w hw)];have hM:=w.heap.rel;have hG:M.H.G R=V (.mp es):=by rw[w.heap.G];exact hb
 have F:M.H.G G=V (.ob (.it since seen last) [.mp R]):=by rw[w.heap.G];exact D
 obtain⟨c,oo,nn,b3,d,b4,q1,⟨q2,rfl⟩,q3⟩:=hM.blk R _ hG;obtain⟨ci,oi,ni,H,c6,c7,p1,⟨m,rfl,rfl⟩,p3,p4⟩:=hM.blk G _ F;have hm:m=c:=by
  have:=p4 0 _ _ rfl rfl;cases this with
  | mp b v hA W h=>
    obtain⟨_,c',o',n',X,g2⟩:=h _ hG;rw[b3] at X;cases X;simpa[hnd,IBlk.isMp] using g2
 subst hm;have W:=qaF w.slot hx;have ex:a.eval x= .pointer (V ⟨ci,0,U⟩):=by
  generalize a.eval x=q at W;cases W with
  | mp b v hA W h=>
    obtain⟨_,c',o',n',X,g2⟩:=h _ F;rw[H] at X;cases X;exact g2
 have z: ∀(i:Nat) (e:MapEntry),d.toList[i]? =V e->e.born=0+i:=by
  intro i e u;have a2:=qad u;have a3:i < es.length:=by rw[<-q2];simpa using a2
  obtain⟨e2,X,⟨_,g2⟩,_⟩:=q3 i _ _ (Ka a3);rw[KY,X] at u;cases u;omega
 have A:((!(⟨seen⟩:Array Nat).isEmpty && !d.isEmpty) && d.all (λe=>decide (e.born>=last)))=Z:=by
  rcases n with n | n
  .cases u:d.isEmpty with
   | true=>simp
   | false=>
     have s:0 < d.size:=by
      rcases Nat.eq_zero_or_pos d.size with h | h
      .rw[Array.isEmpty_iff_size_eq_zero.2 h] at u;cases u
      .exact h
     have c8:=z 0 d[0] (by rw[KY];exact K4 s);have:d.all (λe=>decide (e.born>=last))=Z:=by
      rw[K8];intro I;rw[Array.all_eq_true] at I;have:=I 0 s;simp only[decide_eq_true_eq] at this;omega
     rw[this,K9]
  .subst n;simp
 have a4:d.toList.length=es.length:=by simpa using q2
 have B:(d.filter λe=>!(⟨seen⟩:Array Nat).contains e.born)=⟨(qbG seen es.length).filterMap λi=>d[i]?⟩:=by
  apply Array.toList_inj.1;rw[KZ,qmV d.toList 0 z (λi=>!seen.contains i) (λe _=>by simp),a4,<-List.range_eq_range'];simp[qbG]
 have L: ∀e∈(qbG seen es.length).filterMap (λi=>d[i]?),e.born < since:=by
  intro e u;obtain⟨i,c9,a5⟩:=List.mem_filterMap.1 u;have:=z i e (by rw[KY];exact a5);have a2:=(Array.getElem?_eq_some_iff.1 a5).1;omega
 have b5:(⟨(qbG seen es.length).filterMap λi=>d[i]?⟩:Array MapEntry).filter (λe=>decide (e.born < since))=⟨(qbG seen es.length).filterMap λi=>d[i]?⟩:=by
  apply Array.toList_inj.1;rw[KZ];exact List.filter_eq_self.2 λe u=>by simpa using L e u
 have b6:(⟨(qbG seen es.length).filterMap λi=>d[i]?⟩:Array MapEntry).filter (λe=>decide (e.born>=since))= #[]:=by
  apply Array.toList_inj.1;rw[KZ];exact List.filter_eq_nil_iff.2 λe u=>by have:=L e u;simp;omega
 unfold Oper.wp;have a6:(getObj ci).run P M.w= .ok (.mapIter (V m) since ⟨seen⟩ last) M.w:=qbL p1;have a7:(getObj m).run P M.w= .ok (.map d es.length) M.w:=qbL q1;cases hL:qbG seen es.length with
 | nil=>
   have C:(execOp a.eval o).run P M.w= .ok (.value (.tuple #[.bool Z])) M.w:=by
    simp only[execOp,ho,ex];unfold Instr.next;simp only[KS,a6,a7,KX,A,K6,if_false,B,hL,List.filterMap_nil];simp[Question.forced,run_choose_drew]
   rw[C];exact hK _ _ (h hL M0 a1 M _ hs (w.step (.refl M) hd (.tup [scb Z] [.bool Z] rfl λi y v D W=>by
    cases i with
    | zero=>simp only[Kc,Option.some.injEq] at D W;subst D W;exact .p _ _ (.sc _)
    | succ i=>simp at D) w.heap) ro T.tl)
 | cons i0 c5=>
   have N: ∀i,i∈qbG seen es.length->i < es.length:=λi D=>List.mem_range.1 (List.mem_filter.1 D).1
   have b7: ∀l:List Nat,(∀i∈l,i < es.length)->(l.filterMap λi=>d[i]?).length=l.length/\ ∀(j:Nat) (i:Nat),l[j]? =V i->(l.filterMap λi=>d[i]?)[j]? =d[i]? :=by
    intro l;induction l with
    | nil=>intro _;exact⟨rfl,λj i h=>by simp at h⟩
    | cons i l ih=>
      intro a8;obtain⟨e1,e2⟩:=ih λj g=>a8 j (Ke _ g);have D:=K4 (show i < d.size by rw[q2];exact a8 i (Kb ..));simp only[List.filterMap_cons,D];refine⟨by simp[e1],λj i' g=>?_⟩;cases j with
      | zero=>simp only[Kc,Option.some.injEq] at g ⊢;subst g;exact D.symm
      | succ j=>simpa using e2 j i' (by simpa using g)
   obtain⟨fl,fg⟩:=b7 (qbG seen es.length) N;have b8: ∃(t:Nat) (O:World),t < (qbG seen es.length).length/\(O=M.w\/O=M.w.drew)/\(choose (.mapNext (qbG seen es.length).length)).run P M.w= .ok t O:=by
    have s:0 < (qbG seen es.length).length:=by rw[hL];simp
    rw[run_choose_drew];split
    .exact⟨0,_,s, .inl rfl,rfl⟩
    .exact⟨_,_,Nat.mod_lt _ s, .inr rfl,rfl⟩
   obtain⟨t,O,ht,a9,b9⟩:=b8;have a0:=Ka ht;obtain⟨i,c0⟩: ∃i,(qbG seen es.length)[t]=i:=⟨_,rfl⟩;rw[c0] at a0;have b0:i∈qbG seen es.length:=Kl a0;have b1:=N i b0;have b2:=Ka b1;obtain⟨e,e1,⟨e2,e3⟩,e4⟩:=q3 i es[i].1 es[i].2 b2;have c1:O.heap=M.w.heap:=by rcases a9 with rfl | rfl<;>rfl
   have C:(execOp a.eval o).run P M.w= .ok (.value (.tuple #[.bool Y,e.key,e.val])) (O.putObj ci (.mapIter (V m) since ⟨seen++ [i]⟩ es.length)):=by
    simp only[execOp,ho,ex];unfold Instr.next;simp only[KS,a6,a7,KX,A,K6,if_false,B,b5,b6];have c2:(⟨(qbG seen es.length).filterMap λi=>d[i]?⟩:Array MapEntry).isEmpty=Z:=by
     rw[K8];intro hq;have h0:((qbG seen es.length).filterMap λi=>d[i]?).length=0:=by simpa using Array.isEmpty_iff_size_eq_zero.1 hq
     rw[fl,hL] at h0;simp at h0
    simp only[c2,K6,if_false,K0,K1,Array.size_map,Ko,fl];simp only[b9,KX,Array.getElem?_map,Ku,fg t i a0,e1,KV];rw[KS,qj7 (o:= .mapIter (V m) since ⟨seen⟩ last) (by rw[c1];exact p1)];simp[e3]
   rw[C];have c3: ∃Md:Mem,Md=⟨O,M.H,M.β⟩/\qaf M Md/\MRel Md:=by
    rcases a9 with rfl | rfl
    .exact⟨_,rfl, .refl M,hM⟩
    .exact⟨_,rfl, .drew M,hM.drew⟩
   obtain⟨Md,rfl,sd,rd⟩:=c3;obtain⟨s1,r1⟩:=qpO (M:=⟨O,M.H,M.β⟩) rd (b:=G) (k':= .it since (seen++ [i]) es.length) (vs':= [.mp R]) (us:= [.map (V m)]) (ob:= .mapIter (V m) since ⟨seen++ [i]⟩ es.length) F H rfl ⟨m,rfl,rfl⟩ rfl
    (λj y v g f=>(p4 j y v g f).step sd)
   have st:=sd.trans s1;refine hK _ _ (h' i _ _ b0 b2 M0 a1 _ _ (hs.trans st) (w.step st hd (.tup [scb Y, .p (.sc es[i].1),es[i].2] [.bool Y,e.key,e.val] rfl λj y v g f=>?_) ⟨r1,λb c4=>c4.elim (w.heap.A b) (λe=>e ▸w.heap.A _ (hM.dom _ _ F)),λb=>?_⟩) ro T.tl)
   .match j,g,f with
    | 0,g,f=>simp only[Kc,Option.some.injEq] at g f;subst g f;exact .p _ _ (.sc _)
    | 1,g,f=>simp only[Ki,Kc,Option.some.injEq] at g f;subst g f;rw[e2];exact .p _ _ (.sc _)
    | 2,g,f=>simp only[Ki,Kc,Option.some.injEq] at g f;subst g f;exact e4.step st
    | j+3,g,f=>simp at g
   .simp only[AH.put,Kd,Kh,look];by_cases e:b=G
    .rw[if_pos e,if_pos e.symm]
    .rw[if_neg e,if_neg (show ¬(G=b) from λh=>e h.symm)];exact w.heap.G b
def qon{l:Array Oper}{o:Oper}{r:List Oper}{S:qab}{Q:Exit->qab->Prop}{x:Operand}{E w since i:Nat}{seen:List Nat}{es:List (Value × IV)}{k:Value}{y:IV}
  (ho:o.op= .entry x) (hw:qam l S.s o=V Y) (hx:ev S.s x=V (.mp E)) (hi:look (S.l++h0.m) E=V (.ob (.it since (seen++ [i]) es.length) [.mp w])) (hb:look (S.l++h0.m) w=V (.mp es))
  (R:es[i]? =V (k,y)) (hd:qaC S o.dst=Y)
  (h:IOps P h0 l r (S.put o.dst (.tup [.p (.sc k),y]) S.nx []) Q):IOps P h0 l (o::r) S Q:=by
 intro M0 G M a hs n ro A;refine wpListW_step (A.mem (Kb ..)) λK hK=>?_;rw[if_pos (qbd n hw)];have T:=n.heap.rel;have W:M.H.G w=V (.mp es):=by rw[n.heap.G];exact hb
 have B:M.H.G E=V (.ob (.it since (seen++ [i]) es.length) [.mp w]):=by rw[n.heap.G];exact hi
 obtain⟨c,oo,nn,H,g,I,X,⟨q2,rfl⟩,q3⟩:=T.blk w _ W;obtain⟨ci,oi,ni,C,a0,a1,p1,⟨m,rfl,rfl⟩,p3,p4⟩:=T.blk E _ B;have hm:m=c:=by
  have:=p4 0 _ _ rfl rfl;cases this with
  | mp b v hA F h=>
    obtain⟨_,c',o',n',s,L⟩:=h _ W;rw[H] at s;cases s;simpa[hnd,IBlk.isMp] using L
 subst hm;have F:=qaF n.slot hx;have ex:a.eval x= .pointer (V ⟨ci,0,U⟩):=by
  generalize a.eval x=q at F;cases F with
  | mp b v hA F h=>
    obtain⟨_,c',o',n',s,L⟩:=h _ B;rw[C] at s;cases s;exact L
 obtain⟨e,e1,⟨e2,e3⟩,e4⟩:=q3 i k y R;have t:g.find? (λe=>e.born==i)=V e:=by
  rw[<-Array.find?_toList];have u:g.toList[i]? =V e:=by rw[KY];exact e1
  rw[List.find?_eq_some_iff_getElem];refine⟨by simp[e3],i,qad u,(List.getElem?_eq_some_iff.1 u).2,λj f=>?_⟩;have N:j < es.length:=by have:=qad R;omega
  obtain⟨e',s,⟨_,g3⟩,_⟩:=q3 j _ _ (Ka N);have O:j < g.toList.length:=by have:=qad u;omega
  have:g.toList[j]=e':=by
   have h1:=Ka O;rw[KY,s] at h1;exact(Option.some.inj h1).symm
  rw[this,g3];simp;omega
 have D:(execOp a.eval o).run P M.w= .ok (.value (.tuple #[e.key,e.val])) M.w:=by
  simp only[execOp,ho,ex];unfold Instr.entry;simp only[KS,qbL p1,qbL X,KX];simp[qbL X,t]
 unfold Oper.wp;rw[D];refine hK _ _ (h M0 G M _ hs (n.step (.refl M) hd (.tup [.p (.sc k),y] [e.key,e.val] rfl λj z v f d=>?_) n.heap) ro A.tl)
 match j,f,d with
 | 0,f,d=>simp only[Kc,Option.some.injEq] at f d;subst f d;rw[e2];exact .p _ _ (.sc _)
 | 1,f,d=>simp only[Ki,Kc,Option.some.injEq] at f d;subst f d;exact e4
 | j+2,f,d=>simp at f
def xapn(P:Program)(h:IH)(o:Oper)(S:qab):Option qab:=
 match o.op with
 | .call {callee:= .builtin .append,args:=⟨[s,x]⟩,argTypes:=⟨[t,a]⟩}=>match ev S.s s with
   | some (.p (.sc (.slice U 0 0)))=>match ev S.s x,qhV P t a with
     | some z,V (_,b,_,_)=>match iapp (look (S.l++h.m)) b z with
       | some ([],_)=>V (S.put o.dst (.p (.sc (.slice U 0 0))) S.nx [])
       | _=>U
     | _,_=>U
   | _=>U
 | _=>U
def xapn_sound{h:IH}{d:Array Oper}{o:Oper}{r:List Oper}{S S':qab}{Q:Exit->qab->Prop}(c:xapn P h o S=V S')(y:qam d S.s o=V Y)(A:qaC S o.dst=Y)
  (B:IOps P h d r S' Q):IOps P h d (o::r) S Q:=by
 unfold xapn at c;split at c<;>try simp_all
 rename_i s x O R C;split at c<;>try simp_all
 rename_i D;split at c<;>try simp_all
 rename_i T e W E X m q;split at c<;>try simp_all
 rename_i Rx t;cases c;obtain⟨i,z,q⟩:=qjb q;intro F u M a v f G j;refine wpListW_step (j.mem (Kb ..)) λK H=>?_;rw[if_pos (qbd f y)];have I:=(qaF f.slot D).sc_inv;have L:look (S.l++h.m)=M.H.G:=by funext b;rw[f.heap.G]
 rw[L] at t;obtain⟨k,w⟩:=qbF (P:=P) t f.heap.rel (iapp_reads t) (qaF f.slot m);have N:k= []:=List.eq_nil_of_length_eq_zero (by simpa using w.nl);subst N;have l:=qb8 (P:=P) (ty:=o.type) q (base:=U) (sLen:=0) (sCap:=0) (n:=0) (w.len M.w) (by simpa using w.get) (KI _) (w':=M.w) rfl;have g:(execOp a.eval o).run P M.w= .ok (.value (.slice U 0 0)) M.w:=by
  simp_all[execOp,resolve,invoke,builtin,KS,KT,KX,Kp,Kv,Kw]
 unfold Oper.wp;rw[g];exact H _ _ (B F u M _ v (f.step (.refl M) A (.p _ _ (.sc _)) f.heap) G j.tl)
end Go.Idl
namespace Go.Idl
variable{P:Program}{h0:IH}
def Mem.bare(M:Mem):Mem:=⟨M.w,⟨λ_=>False,λ_=>U,M.own⟩,λ_=>U⟩
def Mem.bare_own(M:Mem)(c):M.bare.own c↔M.own c:=
 ⟨λh=>h.elim id (λ⟨_,_,_,_,h,_⟩=>wu),λh=> .inl h⟩
def MRel.bare{M}(h:MRel M):MRel M.bare:=
 ⟨λ_ _ h=>wu,λ_ _ h=>wu,λ_ _ _ _ _ _ _ _ _ h=>wu,λ_ a=>h.lt a,λ_ _ _ _ _ h=>wu⟩
def PRel.own{w a o}(b: ∀c,o c->a c){x v}(h:PRel w a x v):PRel w o x v:=
 h.step (KI _) λc _ d=>⟨rfl,λh=>d (b c h)⟩
def VRel.bare{M M'}(o:M'.w=M.w)(q: ∀c,M'.own c->M.own c){x v}(h:VRel M x v)(d:bel 0 x):VRel M' x v:=by
 induction h with
 | p x v h=>exact .p x v (by rw[o];exact h.own q)
 | ref b g s t v=>exact absurd d (KL _)
 | ptr b g r j v=>exact absurd d (KL _)
 | mp b v=>exact absurd d (KL _)
 | clo u first f w vc y z D E A B=>
   exact .clo u first f w vc y z (λi x v a e=>A i x v a e (qaP d.1 a)) (λi x v a e=>B i x v a e (qaP d.2 a))
 | agg k l m C r n=>exact .agg k l m C λi x v a e=>n i x v a e (qaP d a)
 | tup k l m r n=>exact .tup k l m λi x v a e=>n i x v a e (qaP d a)
 | dead v=>exact .dead v
def qis{f args x}(p:bels 0 args)(q:bel 0 x)
  (h:qa5 P f args ⟨0, []⟩ λr nx l=> ∃y,r= .ret y/\wk y x/\nx=0/\l= []):PCall P f args [] x:=by
 intro t _ M u j z A;have B:HRel 0 [] M.bare:=⟨j.rel.bare,λb h=>h.elim,λb=>rfl⟩;refine(h M.bare u B z λi y v o n=>VRel.bare (M:=M) (M':=M.bare) rfl (λc h=>(M.bare_own c).1 h) (A i y v o n) (qaP p o)).mono ?_;rintro e G ⟨M',C,H,r,rfl,g,I,D,y,rfl,E,rfl,rfl⟩;obtain⟨v,rfl,n⟩:=D;have a: ∀c,c < M.w.heap.size->M'.w.heap[c]? =M.w.heap[c]? :=by
  intro c d;by_cases m:M.own c
  .exact g.ofix c m
  .exact(g.keep c d λh=>m ((M.bare_own c).1 h)).1
 have F:=g.oeq;have s:qaf M {M with w:=M'.w}:=
  ⟨g.os,g.tape,g.output,g.size,λc d m=>⟨a c d,m⟩,λ_ h=>h,λ_ k _ h=>⟨k,h,rfl,rfl,KI _,λ_=>⟨rfl,rfl⟩⟩,rfl,
   λc d=>a c (j.rel.olt c d)⟩
 refine⟨{M with w:=M'.w},t.nx, [], .ret x,rfl,s,⟨j.rel.same s λc d=>a c (j.rel.lt d),j.A,j.G⟩,⟨v,rfl,?_⟩,rfl,rfl,rfl⟩;exact VRel.bare (M:=M') (M':= {M with w:=M'.w}) rfl (λc d=> .inl (by rw[F];exact d)) (n.wk E) q
def qb9:IV->Bool
 | .p (.sc _)=>Y
 | .p (.nan _)=>Y
 | .agg c=>goS c
 | .tup c=>goS c
 | .dead=>Y
 | _=>Z
where goS:List IV->Bool
 | []=>Y
 | x::r=>qb9 x && goS r
def qiU: ∀ {l} {i:Nat} {x},qb9.goS l=Y->l[i]? =V x->qb9 x=Y
 | [],_,_,_,a=>by grind
 | y::r,i,x,h,a=>by
   simp[qb9.goS] at h;cases i with
   | zero=>grind
   | succ i=>exact qiU h.2 wz
def VRel.scal{M M' x v}(h:VRel M x v):qb9 x=Y->VRel M' x v:=by
 induction h with
 | p x v h=>
   intro c;cases h with
   | sc v=>exact .p _ _ (.sc v)
   | emp a=>cases c
   | imm=>cases c
   | rp=>cases c
   | nan k b h=>exact .p _ _ (.nan k b h)
 | ref b g o q v=>intro c;cases c
 | ptr b g r j v=>intro c;cases c
 | mp b v=>intro c;cases c
 | clo u first s w vc y z A B C D=>intro c;cases c
 | agg e f l t r m=>exact λc=> .agg e f l t λi x v d n=>m i x v d n (qiU c d)
 | tup e f l r m=>exact λc=> .tup e f l λi x v d n=>m i x v d n (qiU c d)
 | dead v=>exact λ_=> .dead v
def qqd(n x):qb9 x=Y->bel n x:=by
 apply IV.rec (motive_1:=λx=>qb9 x=Y->bel n x) (motive_2:=λl=>qb9.goS l=Y->bels n l)
 .intro x _;trivial
 .intro b g o e h;cases h
 .intro b g r j h;cases h
 .intro b h;cases h
 .intro m f c a d h;cases h
 .intro k i h;exact i h
 .intro k i h;exact i h
 .intro _;trivial
 .intro _;trivial
 .intro x l a d h;simp[qb9.goS] at h;exact⟨a h.1,d h.2⟩
def Mem.lend(M:Mem)(ids:List Nat):Mem:=⟨M.w,⟨λ_=>False,λb=>if b∈ids then U else M.H.G b,M.H.O⟩,M.β⟩
def qit{f:FuncId}{args k:List IV}{R:List (Nat × IBlk)}{x:IV}(hf:frzs (look R) args=V k)(hx:qb9 x=Y)(h:PCall P f k [] x):PCall P f args R x:=by
 intro h' hR M vs q G hr;obtain⟨fl,fg⟩:=qdq hf;have hG: ∀b t,look R b=V t->M.H.G b=V t:=λb t d=>by rw[q.G];exact hR _ (look_mem d)
 have m:Less M (M.lend (qaN args)) 0 (qaN args):=by
  refine⟨rfl,rfl,λb d=>absurd d (KL _),λb n d=>?_,λb d=>by simp[Mem.lend,d],rfl⟩;simp only[Mem.lend] at d;split at d
  .cases d
  .exact⟨n,d, .refl _⟩
 have D: ∀c,(M.lend (qaN args)).own c->M.own c:=λc l=>m.own l
 have I:HRel 0 [] (M.lend (qaN args)).bare:=
  ⟨⟨λ_ _ h=>wu,λ_ _ h=>wu,λ_ _ _ _ _ _ _ _ _ h=>wu,λc l=>q.rel.lt (D c l),λ_ _ _ _ _ h=>wu⟩,λb h=>h.elim,λb=>rfl⟩
 have u: ∀(i:Nat) (y:IV) (v:Value),k[i]? =V y->vs[i]? =V v->VRel (M.lend (qaN args)).bare y v:=by
  intro i y v hy K;have a0:=qad hy;have L:=Ka (show i < args.length by omega);obtain⟨g1,N⟩:=frz_Fz _ y (qaN args) (fg i _ y L hy) (λb d=>qbe L b d);have O:Fz M.H.G (qaN args) args[i] y:=by
   clear N;have: ∀ {z:List Nat} {x y:IV},Fz (look R) z x y->Fz M.H.G z x y:=by
    intro z x y hz;induction hz with
    | refl x=>exact .refl x
    | ref b g Q S E o A d T W=>exact .ref b g Q S E o A (hG b _ d) T W
    | ptr b g r j E o X B d T F W=>exact .ptr b g r j E o X B (hG b _ d) T F W
    | agg xs ys G h ih=>exact .agg xs ys G ih
    | tup xs ys G h ih=>exact .tup xs ys G ih
    | clo fn fs gs cs ds h1 h2 hf l i1 i2=>exact .clo fn fs gs cs ds h1 h2 i1 i2
    | dead x=>exact .dead x
    | nil a E h=>exact .nil a E h
   exact this g1
  exact VRel.bare (M:=M.lend (qaN args)) (M':=(M.lend (qaN args)).bare) rfl (λc h=>((M.lend (qaN args)).bare_own c).1 h) (VRel.fz q.rel m O (hr i _ v L K) N) N
 refine(h ⟨0, []⟩ wb _ vs I wa u).mono ?_;rintro e w' ⟨M',a1,l',r,rfl,C,hh,he,rfl,rfl,rfl⟩;obtain⟨v,rfl,K⟩:=he;have p: ∀c,c < M.w.heap.size->M'.w.heap[c]? =M.w.heap[c]? :=by
  intro c l;by_cases H:(M.lend (qaN args)).own c
  .exact C.ofix c H
  .exact(C.keep c l λh=>H (((M.lend (qaN args)).bare_own c).1 h)).1
 have s:qaf M {M with w:=M'.w}:=
  ⟨C.os,C.tape,C.output,C.size,λc l H=>⟨p c l,H⟩,λ_ h=>h,λ_ n _ h=>⟨n,h,rfl,rfl,KI _,λ_=>⟨rfl,rfl⟩⟩,rfl,
   λc l=>p c (q.rel.olt c l)⟩
 exact⟨{M with w:=M'.w},h'.nx, [], .ret x,rfl,s,⟨q.rel.same s λc l=>p c (q.rel.lt l),q.A,q.G⟩,⟨v,rfl,K.scal hx⟩,rfl,rfl,rfl⟩
def pcall0(n){f fn c args x}(d:P.funcs[f]? =V fn)(g:fn.body=V c)(j:args.length<=fn.ntmps)(k:bels 0 args)(a:bel 0 x)
  (m:isms args->vc P ⟨0, []⟩ (EndP P fn ⟨0, []⟩ λy=>wk y x) n [.code c] ⟨fn.ntmps,enum 0 args, [],0, []⟩):PCall P f args [] x:=by
 refine qis k a ?_;intro M v o p b;have q:=qds λi x a=>(b i x _ a (Ka wg)).small
 refine icall_of d g j (qbi.mono (vc_sound _ _ _ _ (m q)) λe S h=>?_) M v o p b;cases e with
 | normal=>exact qlk _ (.inl rfl) h.1 h.2.1 h.2.2.1 h.2.2.2
 | ret=>exact qlk _ (.inr rfl) h.1 h.2.1 h.2.2.1 h.2.2.2
 | exit id=>exact h.elim
 | goto l=>exact h.elim
 | panic r=>exact h.elim
 | outgrown=>exact h.elim
def qbS:IV->Bool
 | .p _=>Y
 | .agg a=>goB a
 | .tup a=>goB a
 | .clo _ f c=>goB f && goB c
 | .dead=>Y
 | _=>Z
where goB:List IV->Bool
 | []=>Y
 | x::r=>qbS x && goB r
def qjF(n x):qbS x=Y->bel n x:=by
 apply IV.rec (motive_1:=λx=>qbS x=Y->bel n x) (motive_2:=λl=>qbS.goB l=Y->bels n l)
 .intro x _;trivial
 .intro b g o e h;cases h
 .intro b g r j h;cases h
 .intro b h;cases h
 .intro m f c i a h;simp[qbS] at h;exact⟨i h.1,a h.2⟩
 .intro k d h;exact d h
 .intro k d h;exact d h
 .intro _;trivial
 .intro _;trivial
 .intro x l i a h;simp[qbS.goB] at h;exact⟨i h.1,a h.2⟩
def qhE(n): ∀l:List IV,qbS.goB l=Y->bels n l
 | [],_=>trivial
 | x::r,h=>by simp[qbS.goB] at h;exact⟨qjF n x h.1,qhE n r h.2⟩
def ddp:List (Nat × IBlk)->List (Nat × IBlk)
 | []=> []
 | p::r=>p::(ddp r).filter λq=>q.1 != p.1
def qed: ∀ {l p},p∈ddp l->look l p.1=V p.2
 | [],p,h=>by cases h
 | (k,x)::r,p,h=>by
   simp[ddp] at h;rcases h with rfl | ⟨h,a⟩
   .simp[look]
   .rw[look,if_neg (λe=>a e.symm)];exact qed h
def qec: ∀ {l p},p∈l-> ∃b,(p.1,b)∈ddp l
 | [],p,h=>by grind
 | (k,x)::r,p,h=>by
   by_cases e:p.1=k
   .exact⟨x,by simp[ddp,e]⟩
   .rcases List.mem_cons.1 h with rfl | h
    .omega
    .obtain⟨b,a⟩:=qec h;exact⟨b,by simp[ddp,a,e]⟩
def _root_.Go.Code.opsOf:Code->Array Oper
 | .region _ o _=>o
 | _=>#[]
abbrev XRun:=Bool->IH->List It->qab->Option (Exit × qab)
def geB(n:Nat):List Nat->Bool
 | []=>Y
 | b::r=>KJ n b && geB n r
def qiT{n}: ∀ {l},geB n l=Y->geAll n l
 | [],_=>trivial
 | b::r,h=>by simp only[geB,K7] at h;exact⟨KH h.1,qiT h.2⟩
def xret(b:Bool)(h:IH)(x:IV)(S:qab):IEnd × Nat × List (Nat × IBlk):=
 match b with
 | false=>(.ret x,S.nx,ddp S.l)
 | true=>match geB h.nx (S.l.map (·.1)) && geB h.nx (refs x),frz (look (S.l++h.m)) x with
   | true,V y=>(.ret y,h.nx, [])
   | _,_=>(.ret x,S.nx,ddp S.l)
def xsv(r:XRun)(b:Bool)(h:IH):Nat->Code->qab->qaL->Option (Exit × qaL × qab)
 | 0,_,_,_=>U
 | n+1,c,S,u=>
   match c with
   | .seq x y=>match xsv r b h n x S u with
     | some (.normal,e,a)=>xsv r b h n y a e
     | some (.ret,e,a)=>V (.ret,e,a)
     | some (.panic f,e,a)=>V (.panic f,e,a)
     | _=>U
   | .region _ ⟨⟨g, .call {callee:= .builtin .recover,args:=⟨[]⟩,argTypes:=_},_,_,_,U⟩::d⟩ Z=>
     match qaC S g && d.all ncOp with
     | true=>match r b h [.ops c.opsOf d] (S.put g (.p (.sc (qaY u).1)) S.nx []) with
       | some (.normal,a)=>V (.normal,(qaY u).2,a)
       | some (.panic f,a)=>V (.panic f,(qaY u).2,a)
       | _=>U
     | false=>U
   | c=>match r b h [.code c] S with
     | some (.normal,a)=>V (.normal,u,a)
     | some (.ret,a)=>V (.ret,u,a)
     | some (.panic f,a)=>V (.panic f,u,a)
     | _=>U
def xcd(r:XRun)(z:FuncId->Bool)(P:Program)(c:FuncId)(zs:List IV)(h:IH)(u:qaL):Option (IEnd × qaL × Nat × List (Nat × IBlk)):=
 match P.funcs[c]? with
 | some f=>match f.body with
   | some b=>match KJ zs.length f.ntmps with
     | true=>match xsv r (z c) h 1000 b (start f.ntmps zs h) u with
       | some (e,a,S)=>match S.d,KJ h.nx S.nx with
         | [],Y=>match e with
           | .normal=>match ires P S (S.l++h.m) f.results.toList with
             | some x=>V (.ret x,a,S.nx,ddp S.l)
             | none=>U
           | .ret=>match ires P S (S.l++h.m) f.results.toList with
             | some x=>V (.ret x,a,S.nx,ddp S.l)
             | none=>U
           | .panic d=>V (.pan d,a,S.nx,ddp S.l)
           | _=>U
         | _,_=>U
       | none=>U
     | false=>U
   | none=>U
 | none=>U
def xld(r:XRun)(z:FuncId->Bool)(P:Program)(fn:Func)(b:Bool)(h:IH):List IDef->qab->qaL->Option (IEnd × Nat × List (Nat × IBlk))
 | [],S,u=>match KJ h.nx S.nx with
   | true=>match u with
     | .ret=>match ires P {S with d:= []} (S.l++h.m) fn.results.toList with
       | some x=>V (xret b h x {S with d:= []})
       | none=>U
     | .pan c=>V (.pan c,S.nx,ddp S.l)
   | false=>U
 | ⟨.func f,e,a⟩::j,S,u=>match fnOk P f with
   | true=>match xcd r z P f (a++e) ⟨S.nx,S.l++h.m⟩ u with
     | some (.ret _,g,n,i)=>xld r z P fn b h j {S with nx:=n,l:=i++S.l} (qce g)
     | some (.pan c,g,n,i)=>xld r z P fn b h j {S with nx:=n,l:=i++S.l} (qe0 g c)
     | none=>U
   | false=>U
 | _::_,_,_=>U
def xmk(P:Program)(fn:Func)(b:Bool)(h:IH)(S:qab):Option (IEnd × Nat × List (Nat × IBlk)):=
 match qcr h S.d S.l with
 | some a=>match KJ h.nx S.nx,ires P {S with d:= [],l:=a} (a++h.m) fn.results.toList with
   | true,V x=>V (xret b h x {S with d:= [],l:=a})
   | _,_=>U
 | none=>U
def qpN:List IDef->Bool
 | ⟨.yield _,_,_⟩::_=>Y
 | _=>Z
def xend(r:XRun)(z:FuncId->Bool)(P:Program)(fn:Func)(b:Bool)(h:IH)(S:qab)(u:qaL):Option (IEnd × Nat × List (Nat × IBlk)):=
 match qpN S.d,u with
 | true, .ret=>xmk P fn b h S
 | _,_=>xld r z P fn b h S.d S u
def xf(r:XRun)(z:FuncId->Bool)(P:Program)(b:Bool)(c:FuncId)(zs:List IV)(h:IH):Option (IEnd × Nat × List (Nat × IBlk)):=
 match P.funcs[c]? with
 | some f=>match f.body with
   | some a=>match KJ zs.length f.ntmps with
     | true=>match r (z c) h [.code a] (start f.ntmps zs h) with
       | some (.normal,S)=>xend r z P f b h S .ret
       | some (.ret,S)=>xend r z P f b h S .ret
       | some (.panic d,S)=>xend r z P f b h S (.pan d)
       | _=>U
     | false=>U
   | none=>U
 | none=>U
def qda(P:Program)(r:XRun):Prop:= ∀b h k S e a,r b h k S=V (e,a)-> ∀Q:Exit->qab->Prop,Q e a->IRun P h k S Q
def qct{h S x}(b:S.d= [])(c:h.nx<=S.nx):qcD h [] S x x S.nx (ddp S.l):=by
 refine⟨⟨rfl,rfl, .inl b,c,KI _,wb,λp a=>?_,λp a=> .inr (qec a),wb⟩, .refl x, .inl rfl⟩;have:=qed a;exact⟨p.2,by rw[qae,this], .refl _, .inl rfl⟩
def qiN{b h x S r nx l}(a:xret b h x S=(r,nx,l))(f:S.d= [])(g:h.nx<=S.nx): ∃y ids,r= .ret y/\qcD h ids S x y nx l:=by
 have c: ∀ {r nx l},(IEnd.ret x,S.nx,ddp S.l)=(r,nx,l)-> ∃y ids,r= .ret y/\qcD h ids S x y nx l:=by
  intro r nx l e;cases e;exact⟨x, [],rfl,qct f g⟩
 unfold xret at a;split at a
 .grind
 .split at a
  .rename_i y d i;cases a;simp at d;exact⟨y,refs x,rfl,leave_frz f g (qiT d.1) (qiT d.2) i⟩
  grind
def qqo{r:XRun}{b:Bool}{h:IH}(d:qda P r): ∀(n:Nat) (c:Code) (S:qab) (u:qaL) (e:Exit) (D:qaL) (S':qab),xsv r b h n c S u=V (e,D,S')->
  ICodeS P h c S u (λE H F=>E=e/\H=D/\F=S')/\e≠ .outgrown:=by
 intro n;induction n with
 | zero=>intro c S u e D S' i;cases i
 | succ n G=>
   intro c S u e D S' i;unfold xsv at i;split at i
   .rename_i x y;split at i<;>try cases i
    .rename_i H F g;obtain⟨O,Q⟩:=G _ _ _ _ _ _ i;refine⟨qer λl j M a m o f p q=>qc1 ((G _ _ _ _ _ _ g).1 l j M a m o f p q) ?_,Q⟩;rintro E I s K ⟨t,k,v,w,z,A,B,rfl,rfl,rfl⟩;exact⟨t,k,v,w,z,A,B,O⟩
    .rename_i g;refine⟨qer λl j M a m o f p q=>qc1 ((G _ _ _ _ _ _ g).1 l j M a m o f p q) ?_,ww⟩;rintro E I s K ⟨t,k,v,w,z,A,B,rfl,rfl,rfl⟩;exact⟨t,k,v,w,z,A,B,rfl,rfl,rfl⟩
    .rename_i L g;refine⟨qer λl j M a m o f p q=>qc1 ((G _ _ _ _ _ _ g).1 l j M a m o f p q) ?_,ww⟩;rintro E I s K ⟨t,k,v,w,z,A,B,rfl,rfl,rfl⟩;exact⟨t,k,v,w,z,A,B,rfl,rfl,rfl⟩
   .rename_i id R X ty T W N;split at i<;>try cases i
    rename_i C;rw[K7] at C;split at i<;>try cases i
    .rename_i F g;exact⟨qdO C.1 (λS h=>by cases h.1) C.2 (d _ _ _ _ _ _ g _ ⟨rfl,rfl,rfl⟩),ww⟩
    .rename_i L F g;exact⟨qdO C.1 (λS h=>by cases h.1) C.2 (d _ _ _ _ _ _ g _ ⟨rfl,rfl,rfl⟩),ww⟩
   .split at i<;>try cases i
    .rename_i g;exact⟨qdB (d _ _ _ _ _ _ g _ ⟨rfl,rfl,rfl⟩),ww⟩
    .rename_i g;exact⟨qdB (d _ _ _ _ _ _ g _ ⟨rfl,rfl,rfl⟩),ww⟩
    .rename_i L g;exact⟨qdB (d _ _ _ _ _ _ g _ ⟨rfl,rfl,rfl⟩),ww⟩
def xcd_sound{i z}(j:qda P i){c zs h u q r nx l}(b:xcd i z P c zs h u=V (r,q,nx,l)){Q}(n:Q r q nx l):
  qkt P c zs h u Q:=by
 unfold xcd at b;split at b<;>try grind
 rename_i O t;split at b<;>try grind
 rename_i s v;split at b<;>try grind
 rename_i w;split at b<;>try grind
 rename_i e R S y;obtain⟨A,T⟩:=qqo j _ _ _ _ _ _ _ y;split at b<;>try grind
 rename_i g f;refine icallD_of t v (KH w) λB o M a C D k E F=>qc1 (A B o M a C D k E F) ?_;rintro W X G w1 ⟨H,p,I,m,K,L,N,rfl,rfl,rfl⟩;refine⟨H,p,I,m,K,L,N,?_⟩;split at b<;>try cases b
 .split at b<;>try cases b
  rename_i x d;exact .norm _ m x _ _ g d (qct g (KH f)) n
 .split at b<;>try cases b
  rename_i x d;exact .ret _ m x _ _ g d (qct g (KH f)) n
 .exact .pan _ m _ _ _ g (qct (x:= .dead) g (KH f)).sub n
def qqn{e z b}(c:qda P e){fn h r nx l Q}(n:Q r nx l):
  ∀(g S u),xld e z P fn b h g S u=V (r,nx,l)->qbg P fn h Q S g u:=by
 intro g;induction g with
 | nil=>
   intro S u a;unfold xld at a;split at a<;>try grind
   rename_i i;split at a
   .split at a<;>try grind
    rename_i x j;obtain⟨y,s,rfl,t⟩:=qiN (Option.some.inj a) rfl (KH i);exact qig j t n
   .cases a;exact leaves_pan (qct (S:= {S with d:= []}) (x:= .dead) rfl (KH i)).sub n
 | cons d g o=>
   intro S u a;obtain⟨k,v,p⟩:=d;cases k with
   | func f=>
     simp[xld] at a;split at a<;>try grind
     rename_i q;split at a<;>try grind
     .rename_i m;exact leaves_call q (xcd_sound c m (o _ _ a))
     .rename_i m;exact leaves_call q (xcd_sound c m (o _ _ a))
   | _=>simp only[xld] at a;grind
def xend_sound{d z b}(g:qda P d){f fn c args h r nx l Q}(p:Q r nx l)
  (q:P.funcs[f]? =V fn) (s:fn.body=V c) (t:args.length<=fn.ntmps) {e S u} (a:xend d z P fn b h S u=V (r,nx,l))
  (j:(u= .ret/\(e= .normal\/e= .ret))\/ ∃k,u= .pan k/\e= .panic k) (v: ∀Q:Exit->qab->Prop,Q e S->qbi P h c (start fn.ntmps args h) Q):qa5 P f args h Q:=by
 unfold xend at a;split at a
 .have j:e= .normal\/e= .ret:=by
   grind
  unfold xmk at a;split at a<;>try grind
  rename_i w m;split at a<;>try grind
  rename_i x n i;obtain⟨y,o,rfl,A⟩:=qiN (Option.some.inj a) rfl (KH n);exact qom q s t (v _ (.ret _ S w x y o nx l j m i A p))
 .refine qh7 q s t (v _ ?_);have:=qqn g p _ _ _ a
  grind
def qdx{e z b}(a:qda P e){c zs h r nx l}(d:xf e z P b c zs h=V (r,nx,l)){Q}(g:Q r nx l):
  qa5 P c zs h Q:=by
 unfold xf at d;split at d<;>try grind
 rename_i o i;split at d<;>try grind
 rename_i m j;split at d<;>try grind
 rename_i k;split at d<;>try grind
 .rename_i S f;exact xend_sound a g i j (KH k) d (.inl ⟨rfl, .inl rfl⟩) (a _ h _ _ _ _ f)
 .rename_i S f;exact xend_sound a g i j (KH k) d (.inl ⟨rfl, .inr rfl⟩) (a _ h _ _ _ _ f)
 .rename_i n S f;exact xend_sound a g i j (KH k) d (.inr ⟨n,rfl,rfl⟩) (a _ h _ _ _ _ f)
def xp(r:XRun)(z:FuncId->Bool)(P:Program)(c:FuncId)(zs:List IV):Option IV:=
 match qbS.goB zs with
 | true=>match xf r z P Y c zs ⟨0, []⟩ with
   | some (.ret y,n, [])=>match KK n 0 && qbS y with
     | true=>V y
     | false=>U
   | _=>U
 | false=>U
def qhM{r z}(a:qda P r){c zs y}(h:xp r z P c zs=V y):PCall P c zs [] y/\bel 0 y:=by
 unfold xp at h;split at h<;>try grind
 rename_i e;split at h<;>try grind
 rename_i n f;split at h<;>try cases h
 rename_i b;simp only[K7] at b;have h0:=Nat.eq_of_beq_eq_true b.1;have d:=qjF 0 y b.2;exact⟨qis (qhE 0 zs e) d (qdx a f ⟨y,rfl,wk_refl y,h0,rfl⟩),d⟩
def seen(G:Nat->Option IBlk):List Nat->List (Nat × IBlk)
 | []=> []
 | b::r=>match G b with
   | some a=>(b,a)::seen G r
   | none=>seen G r
def seen_spec{G}: ∀ {l},∀p∈seen G l,G p.1=V p.2
 | [],p,h=>by cases h
 | b::r,p,h=>by
   unfold seen at h;split at h
   .rcases List.mem_cons.1 h with rfl | h
    .omega
    .exact seen_spec p h
   .exact seen_spec p h
def xview(p:FuncId->List IV->Option IV)(G:Nat->Option IBlk)(c:FuncId)(zs:List IV):Option (IV × List (Nat × IBlk)):=
 match qaN zs with
 | []=>match p c zs with
   | some x=>V (x, [])
   | none=>U
 | i=>match frzs (look (seen G i)) zs with
   | some z=>match p c z with
     | some x=>match qb9 x with
       | true=>V (x,seen G i)
       | false=>U
     | none=>U
   | none=>U
def qnd{d}(a: ∀c zs x,d c zs=V x->PCall P c zs [] x/\bel 0 x){G c zs x R}(h:xview d G c zs=V (x,R)):
  PCall P c zs R x/\bel 0 x/\ ∀p∈R,G p.1=V p.2:=by
 unfold xview at h;split at h
 .grind
 .split at h<;>try grind
  rename_i e;split at h<;>try grind
  rename_i b;split at h<;>try cases h
  rename_i f;exact⟨qit e f (a _ _ _ b).1,(a _ _ _ b).2,seen_spec⟩
def xeff(e:FuncId->List IV->IH->Option (IEnd × Nat × List (Nat × IBlk)))(G:Nat->Option IBlk)(nx:Nat)(c:FuncId)(zs:List IV):Option (IV × Nat × List (Nat × IBlk) × List (Nat × IBlk)):=
 match e c zs ⟨nx,seen G (qdo G 10000 (qaN zs) [])⟩ with
 | some (.ret x,n,l)=>match KJ nx n && qof nx (n - nx) (seen G (qdo G 10000 (qaN zs) [])) l zs x with
   | true=>V (x,n - nx,seen G (qdo G 10000 (qaN zs) []),l)
   | false=>U
 | _=>U
def drun_eff{u}(s: ∀c zs h r nx l,u c zs h=V (r,nx,l)->qa5 P c zs h λv a l'=>v=r/\a=nx/\l'=l)
  {d dst ty e i g r S m K f args ts n zs x k R l}
  (w:qam d S.s ⟨dst, .call {callee:= .value f,args:=⟨args⟩,argTypes:=ts},ty,e,i,g⟩=V Y) (z:qao (ev S.s) f args=V (n,zs)) (A:fnOk P n=Y) (B:dOk S.n dst=Y)
  (q:xeff u (look (S.l++h0.m)) S.nx n zs=V (x,k,R,l))
  (h:DRun P h0 d r ⟨S.n,putS dst x S.s,S.d,S.nx+k,l++S.l⟩ (m++ [(R.map (·.1),l.reverse.map (·.1))]) K):
  DRun P h0 d (⟨dst, .call {callee:= .value f,args:=⟨args⟩,argTypes:=ts},ty,e,i,g⟩::r) S m K:=by
 unfold xeff at q;split at q<;>try grind
 rename_i y a T C;split at q<;>try cases q
 rename_i j;simp only[K7] at j;have D:=KH j.1;obtain⟨E,F⟩:=qrO (o:=⟨dst, .call {callee:= .value f,args:=⟨args⟩,argTypes:=ts},ty,e,i,g⟩) rfl z A j.2 ((s _ _ _ _ _ _ C).mono λv G l' ⟨H,W,I⟩=>⟨H,wa,I⟩);obtain⟨t,L,M,N⟩:=h;refine⟨⟨x,seen (look (S.l++h0.m)) (qdo (look (S.l++h0.m)) 10000 (qaN zs) []),Kr S.nx (a - S.nx),l.reverse⟩::t,L, .op w E ⟨seen_spec,λb O=>?_,λp Q=>F p wg⟩ B ?_,by simpa[FR.fp] using N⟩<;>simp_all
def xd(p:FuncId->List IV->Option IV)(e:FuncId->List IV->IH->Option (IEnd × Nat × List (Nat × IBlk)))(P:Program)(h0:IH)(a:Array Oper):List Oper->qab->List FP->Option (qab × List FP)
 | [],S,b=>V (S,b)
 | o::r,S,b=>
   match dOk S.n o.dst with
   | true=>match qam a S.s o with
     | some Y=>match fop P (ev S.s) (look (S.l++h0.m)) S.nx a o.dst o.op with
       | some d=>xd p e P h0 a r ⟨S.n,putS o.dst d.x S.s,S.d,S.nx+d.F.length,d.W.reverse++S.l⟩ (b++ [d.fp])
       | none=>match o.op with
         | .call {callee:= .value f,args,argTypes:=_}=>match qao (ev S.s) f args.toList with
           | some (c,z)=>match fnOk P c with
             | true=>match xview p (look (S.l++h0.m)) c z with
               | some (x,R)=>xd p e P h0 a r ⟨S.n,putS o.dst x S.s,S.d,S.nx,S.l⟩ (b++ [(R.map (·.1), [])])
               | none=>match xeff e (look (S.l++h0.m)) S.nx c z with
                 | some (x,k,R,l)=>xd p e P h0 a r ⟨S.n,putS o.dst x S.s,S.d,S.nx+k,l++S.l⟩ (b++ [(R.map (·.1),l.reverse.map (·.1))])
                 | none=>U
             | false=>U
           | none=>U
         | _=>U
     | some Z=>xd p e P h0 a r ⟨S.n,putS o.dst (.tup []) S.s,S.d,S.nx,S.l⟩ (b++ [([], [])])
     | none=>U
   | false=>U
def qmh{v}(q: ∀c zs x,v c zs=V x->PCall P c zs [] x/\bel 0 x)
  {w} (s: ∀c zs h r nx l,w c zs h=V (r,nx,l)->qa5 P c zs h λA t l'=>A=r/\t=nx/\l'=l) {i K}:
  ∀(l S a S' b),xd v w P h0 i l S a=V (S',b)->K S' b->DRun P h0 i l S a K:=by
 intro l;induction l with
 | nil=>intro S a S' b h e;obtain⟨rfl,rfl⟩:=h;exact drun_nil e
 | cons o r n=>
   intro S a S' b h e;rw[xd] at h;split at h<;>try cases h
   rename_i p;split at h<;>try cases h
   .rename_i j;split at h
    .rename_i I B;exact drun_op j B p (n _ _ _ _ h e)
    .split at h<;>try grind
     rename_i f d L m;split at h<;>try grind
     rename_i c zs y;split at h<;>try grind
     rename_i z;obtain⟨C,M,N,D,E,g⟩:=o;subst m;split at h
     .rename_i x R u;obtain⟨F,G,H⟩:=qnd q u;exact qjf j y z p H F G (n _ _ _ _ h e)
     .split at h<;>try grind
      rename_i x k R l u;exact drun_eff s j y z p u (n _ _ _ _ h e)
   .rename_i j;exact drun_skip j p (n _ _ _ _ h e)
def chkB(u:List (Option (List Nat)))(f:List FP):Bool:=go f u f
where
 go (a:List FP):List (Option (List Nat))->List FP->Bool
  | d::e,g::h=>(match g.2 with
    | []=>Y
    | b::w=>match d with
      | none=>Z
      | some l=>l.all λi=>match a[i]? with
        | none=>Y
        | some q=>(b::w).all λc=>!q.1.contains c && !q.2.contains c) && go a e h
  | _,_=>Y
def qni{a}: ∀ {u fs},chkB.go a u fs=Y->qfg a u fs
 | [],_,_=>by simp[qfg]
 | _::_, [],_=>by simp[qfg]
 | f::p,g::fs,h=>by
   simp[chkB.go] at h;refine⟨?_,qni h.2⟩;have d:=h.1;cases e:g.2 with
   | nil=>trivial
   | cons b w=>
     rw[e] at d;cases f with
     | none=>grind
     | some l=>
       simp at d;clear h e;induction l with
       | nil=>trivial
       | cons i l k=>
         refine⟨?_,k λj m=>d j (Ke _ m)⟩;cases n:a[i]? with
         | none=>trivial
         | some q=>
           intro c o
           grind
def chkB_chk{u f}(h:chkB u f=Y):chk u f:=qni h
def qdk(r:XRun)(b:Bool)(h:IH)(k:List It)(e:Exit)(S:qab):Option (Exit × qab):=
 match e with
 | .exit id=>match qbT id k with
   | some a=>r b h a S
   | none=>V (.exit id,S)
 | .ret=>V (.ret,S)
 | .panic c=>V (.panic c,S)
 | _=>U
def qeJ{r b}(c:qda P r){h k e g S S'}(a:qdk r b h k e S=V (g,S')){Q}(d:Q g S'):after P h Q k e S:=by
 unfold qdk at a;split at a
 .split at a
  .rename_i id i f;exact after_exit f (c _ _ _ _ _ _ a _ d)
  .rename_i id f;cases a;exact after_exit_none f d
 .cases a;exact after_ret d
 .cases a;exact after_panic d
 grind
def xcallOf(s:List (Nat × IV)):Op->Option (FuncId × List IV)
 | .call {callee:= .value f,args,argTypes:=_}=>qao (ev s) f args.toList
 | _=>U
def xpanOf(s:List (Nat × IV)):Op->Option Value
 | .panic x=>match ev s x with
   | some (.p (.sc (.iface t v)))=>V (.iface t v)
   | _=>U
 | _=>U
def xdefOf(s:List (Nat × IV)):Op->Option IDef
 | .defer {callee:= .value f,args,argTypes:=_}=>qgk (ev s) f args.toList
 | _=>U
def xop(r:XRun)(z:FuncId->Bool)(P:Program)(b:Bool)(h:IH)(a:Array Oper)(o:Oper)(S:qab):Option (Exit × qab):=
 match xapn P h o S with
 | some e=>V (.normal,e)
 | none=>match fop P (ev S.s) (look (S.l++h.m)) S.nx a o.dst o.op with
 | some f=>V (.normal,S.put o.dst f.x (S.nx+f.F.length) f.W.reverse)
 | none=>match xcallOf S.s o.op with
   | some (c,g)=>match fnOk P c with
     | true=>match xf r z P b c g ⟨S.nx,S.l++h.m⟩ with
       | some (.ret x,nx,l)=>V (.normal,S.put o.dst x nx l)
       | some (.pan i,nx,l)=>V (.panic i, {S with nx,l:=l++S.l})
       | none=>U
     | false=>U
   | none=>match xpanOf S.s o.op with
     | some v=>V (.panic [{v:=v,recovered:=false}],S)
     | none=>match xdefOf S.s o.op with
       | some x=>V (.normal, {S.put o.dst (.tup []) S.nx [] with d:=x::S.d})
       | none=>U
def xop_sound{q z b}(m:qda P q){h j o r S S' e}(p:qam j S.s o=V Y)(s:qaC S o.dst=Y)(d:xop q z P b h j o S=V (e,S'))
  {Q} (y:e= .normal->IOps P h j r S' Q) (C:(∀A,e= .panic A->Q e S')):IOps P h j (o::r) S Q:=by
 unfold xop at d;split at d
 .rename_i M E;cases d;exact xapn_sound E p s (y rfl)
 split at d
 .rename_i N F;cases d;exact iops_op p F s (y rfl)
 .split at d
  .rename_i c O u;split at d<;>try grind
   rename_i D;unfold xcallOf at u;split at u<;>try grind
   rename_i f a G i;obtain⟨H,R,T,I,K,g⟩:=o;subst i;split at d<;>try cases d
   .rename_i x L l n;exact iops_call rfl p u D s (qdx m n (y rfl))
   .rename_i A L l n;exact iops_call rfl p u D s (qdx m n (C A rfl))
  .split at d
   .rename_i v w;cases d;unfold xpanOf at w;split at w<;>try grind
    rename_i x i;split at w<;>try cases w
    rename_i t W B;exact iops_panic i p B (C _ rfl)
   .split at d<;>try cases d
    rename_i x k;unfold xdefOf at k;split at k<;>try grind
    rename_i f a G i;exact iops_defer i p k s (y rfl)
def xr(P:Program)(z:FuncId->Bool):Nat->XRun
 | 0,_,_,_,_=>U
 | n+1,b,h,k,S=>match k with
   | []=>V (.normal,S)
   | .blk _::k=>xr P z n b h k S
   | .ops _ []::k=>xr P z n b h k S
   | .ops f (o::r)::k=>match qaC S o.dst with
     | true=>match qam f S.s o with
       | some Y=>match xop (xr P z n) z P b h f o S with
         | some (.normal,d)=>xr P z n b h (.ops f r::k) d
         | some (.panic i,d)=>V (.panic i,d)
         | _=>U
       | some Z=>xr P z n b h (.ops f r::k) (S.put o.dst (.tup []) S.nx [])
       | none=>U
     | false=>U
   | .code c::k=>match c with
     | .skip=>xr P z n b h k S
     | .label _=>xr P z n b h k S
     | .seq x y=>xr P z n b h (.code x:: .code y::k) S
     | .block id c=>xr P z n b h (.code c:: .blk id::k) S
     | .exit id=>qdk (xr P z n) b h k (.exit id) S
     | .ret=>V (.ret,S)
     | .cond c x y=>match ev S.s c with
       | some (.p (.sc (.bool Y)))=>xr P z n b h (.code x::k) S
       | some (.p (.sc (.bool Z)))=>xr P z n b h (.code y::k) S
       | _=>U
     | .region _ a Z=>xr P z n b h (.ops a a.toList::k) S
     | .region _ a Y=>match xd (xp (xr P z n) z P) (xf (xr P z n) z P b) P h a a.toList S [] with
       | some (d,g)=>match P.follows .mixedOrders,stat a.toList (uGo (qa0 a.toList []) 0 a.toList),chkB (uGo (qa0 a.toList []) 0 a.toList) g with
         | true,Y,Y=>xr P z n b h k d
         | _,_,_=>U
       | none=>U
     | .loop c=>match xr P z n b h [.code c] S with
       | some (.normal,d)=>xr P z n b h (.code (.loop c)::k) d
       | some (e,d)=>qdk (xr P z n) b h k e d
       | none=>U
     | .scope c=>match xr P z n b h [.code c] S with
       | some (.normal,d)=>xr P z n b h k d
       | some (e,d)=>qdk (xr P z n) b h k e d
       | none=>U
     | _=>U
def qgO(P:Program)(h0:IH)(c:Code)(Q:Exit->qab->Prop)(m:Nat)(S:qab):Prop:=
 ∀b,HRel h0.nx h0.m b-> ∀M a,qaf b M->SRel h0 S M a-> ∀r,RoOk r (ndC c)->Code.roundsIn (Wd r) 0 P c (qcR h0 b Q) m a M.w
def qgl{c Q m S}(h:qbi P h0 c S λe S'=>match e with | .normal=>qgO P h0 c Q m S' | e=>Q e S'):qgO P h0 c Q (m+1) S:=by
 intro l j M a n o r k;refine wpIn_mono (h l j M a n o r k) ?_;rintro e p w ⟨b,S',rfl,d,f,g⟩;cases e with
 | normal=>exact g l j b p d f r k
 | exit i=>exact⟨b,S',rfl,d,f,g⟩
 | goto i=>exact⟨b,S',rfl,d,f,g⟩
 | ret=>exact⟨b,S',rfl,d,f,g⟩
 | panic c=>exact⟨b,S',rfl,d,f,g⟩
 | outgrown=>exact⟨b,S',rfl,d,f,g⟩
end Go.Idl
namespace Go.Idl
open Go.ChangeShapes Go.WideShapes Go.RowKit
def qca(W:World)(xs:List PV)(cs:List Value):Prop:=
 xs.length=cs.length/\ ∀(j:Nat) (x:PV) (v:Value),xs[j]? =V x->cs[j]? =V v->v.oneCell'=Y/\PRel W (λ_=>False) x v
def qar{i:Type}(P:Program)(t:TypeId)(f:i->List PV)(g:i->Prop):Prop:=
 ∀ {H:Type} (e:TypeId × Value->H) (W:World) (b:Nat) (s:Nat->Bool) (h:Bool) (c:Nat) (j:List Value) (d:DataW H) (p:List MemPlace),
   DataW.trod e P W b s h c t j=V (d,p)->(∀n∈d.weights P t,n<=reachBytes)-> ∃a,g a/\qca W (f a) j
variable{P:Program}{t e:TypeId}{α β:Type}{f:α->List PV}{g:β->List PV}{good:α->Prop}{good':β->Prop}
def qca.one{W x v}(c:v.oneCell'=Y)(h:PRel W (λ_=>False) x v):qca W [x] [v]:=by
 refine⟨rfl,λj y u a b=>?_⟩
 grind
def qca.append{W xs ys cs d}(h:qca W xs cs)(k:qca W ys d):qca W (xs++ys) (cs++d):=by
 refine⟨by simp[h.1,k.1],λj y u a b=>?_⟩;by_cases c:j < xs.length
 .rw[Kx c] at a;rw[Kx (by rw[<-h.1];omega)] at b;exact h.2 j y u a b
 .rw[Ky wa] at a;rw[Ky (by rw[<-h.1];omega),<-h.1] at b;exact k.2 _ y u a b
def qpX{k}(j:P.underlying t=V (.int k)):qar P t (λn:Int=> [.sc (.int k n)]) λn=>k.min<=n/\n<=k.max:=by
 intro H l W b s a c m d p h _;obtain⟨n,rfl,o,i⟩:=DataW.trod_int j h;simp[Lit.wf] at i;exact⟨n,i, .one rfl (.sc _)⟩
def qoJ(j:P.underlying t=V .bool):qar P t (λb:Bool=> [.sc (.bool b)]) λ_=>True:=by
 intro H k W a s c i l d p h _;obtain⟨n,rfl,m⟩:=DataW.trod_bool j h;exact⟨n,trivial, .one rfl (.sc _)⟩
def qme{H}{d:DataW H}{l}(h:d∈l): ∀n∈d.weights P e,n∈DataW.weightsAll P e l:=by
 induction l with
 | nil=>grind
 | cons x l i=>
   grind[DataW.weightsAll]
def qnq{d:Type}{p:Nat->d->Prop}: ∀n:Nat,(∀i,i < n-> ∃a,p i a)-> ∃l:List d,l.length=n/\ ∀(i a),l[i]? =V a->p i a
 | 0,_=>⟨[],rfl,wb⟩
 | n+1,h=>by
   obtain⟨l,k,m⟩:=qnq n λi o=>h i wa;obtain⟨a,q⟩:=h n wa;refine⟨l++ [a],wg,λi b c=>?_⟩
   grind
def qba{sz by_:Nat}(O:P.underlying t=V (.slice e))(hc:P.cellsOf e=sz)(hz:0 < sz)(hb:P.bytesOf e=by_)(h:qar P e f good):
  qar P t (λl:List α=> [.imm sz (pr f l)]) λl=>(∀a∈l,good a)/\l.length * by_<=reachBytes/\l.length<=maxLen:=by
 intro H Q W v sp D a6 cs d ps ht hw;rcases DataW.trod_slice O ht with ⟨rfl,z⟩ | ⟨a,E,a8,m,w,n,rfl,rfl,z,a9,R,S,a7,T, -, -⟩
 .refine⟨[],⟨wb,by simp[reachBytes],wb⟩, .one rfl ?_⟩;exact .imm sz [] U 0 0 0 (λ_ _=>undef) (KI _) (KO _) (λh=>absurd h wb) wb wb wb
 .simp only[Prod.mk.injEq] at z;obtain⟨rfl, -⟩:=z;have X:(m.length+w.length) * by_<=reachBytes:=by
   have:=hw ((m.length+w.length) * P.bytesOf e) (by simp[DataW.weights,O]);rwa[hb] at this
  have a0: ∀i,i < E-> ∃x:α,good x/\ ∃p,W.cells? v (a.add (i * sz)) sz=V p/\qca W (f x) p:=by
   intro i u;have F:=T i u;rw[Ka wa,hc] at F;obtain⟨p,r,C⟩:=Option.bind_eq_some_iff.1 F;obtain⟨x,a1,a2⟩:=h Q W v sp D n p m[i].1 m[i].2 C (λk hk=>hw k (by
    have:=qme (P:=P) (e:=e) (l:=m.map (·.1)) (List.mem_map_of_mem (List.getElem_mem (show i < m.length by omega))) k hk;simp only[DataW.weights,O,Kz,List.mem_append];first | exact .inr this | exact .inr (.inl this)))
   exact⟨x,a1,p,r,a2⟩
  obtain⟨l,hl,M⟩:=qnq E a0;subst hl;refine⟨l,⟨λx z=>?_,?_,wa⟩, .one rfl ?_⟩
  .obtain⟨i,u,rfl⟩:=KA z;exact(M i _ (Ka u)).1
  .refine Nat.le_trans (Nat.mul_le_mul_right _ ?_) X;omega
  .have q:0 < l.length->a.spot=U/\a.block < W.heap.size:=by
    intro N;obtain⟨_,p,r,_⟩:=M 0 _ (Ka N);refine⟨?_,?_⟩
    .obtain⟨_,a3,A⟩:=KG r;have G:=A 0 hz;have a4:0 < p.length:=wa
     rw[Ka a4] at G;simpa[Addr.add] using World.cell?_spot G
    .simpa[Addr.add] using World.cells?_block r hz
   have B:(pr f l).length=l.length:=qp5;rw[<-B];refine .mk_imm (c:=a.block) (o:=a.off) (by rw[B];exact R) S (λN=>?_) (λi a5 u=>?_) (λi a5 j x u hj=>?_)
   .rw[B] at N;obtain⟨F,r⟩:=q N;refine⟨?_,r,λh=>h⟩;obtain⟨b,o,s⟩:=a;simp at F;subst F;rfl
   .simp only[pr,Kf,KU] at u;obtain⟨x,z,rfl⟩:=u;obtain⟨_,p,r,C⟩:=M i x z;rw[C.1];exact(KG r).2.1
   .simp only[pr,Kf,KU] at u;obtain⟨y,hy,rfl⟩:=u;obtain⟨_,p,r,C⟩:=M i y hy;obtain⟨_,b0,A⟩:=KG r;have I:=qad hj;rw[C.1] at I;have K:=Ka I;have h4:=A j wa;rw[K] at h4;obtain⟨g1,g2⟩:=C.2 j x _ hj K;refine⟨_,?_,g1,g2⟩;obtain⟨L,_⟩:=q (by have:=qad hy;omega);obtain⟨b,o,s⟩:=a;simp at L;subst L;rw[qbo,qbo,KP] at h4;exact h4
def qar.map{l k b}(h:qar P t f good)(m:α->l)(o: ∀a,k (m a)=f a)(p: ∀a,good a->b (m a)):qar P t k b:=by
 intro H n W c s i j q d r u v;obtain⟨a,w,x⟩:=h n W c s i j q d r u v
 grind
def qoI{x off}(d:x.offset=off)(h:qar P x.type f good): ∀ {b},off+P.cellsOf x.type=b->
  ∀ {H} (enc W base s c n) (cs:List Value) (xs:List (DataW H × List MemPlace)),cs.length=b->
  xs.length=1->(∀(i:Nat) (y:Field), [x][i]? =V y->DataW.trod enc P W base s c n y.type ((cs.drop y.offset).take (P.cellsOf y.type))=xs[i]?)->
  (∀k∈DataW.weightsEach P [x.type] (xs.map (·.1)),k<=reachBytes)-> ∃a,good a/\qca W (f a) (cs.drop off):=by
 intro b q H enc W base s c n cs xs j l m o
 match xs,l with
 | [y],_=>
   have:=m 0 x rfl;simp[d] at this;rw[KB wg] at this;exact h enc W base s c n _ y.1 y.2 this λk p=>o k (by simp[DataW.weightsEach,p])
def qhP{α:Type}(P:Program)(fs:List Field)(off b:Nat)(f:α->List PV)(good:α->Prop):Prop:=
 ∀ {H:Type} (d:TypeId × Value->H) (W:World) (c:Nat) (s:Nat->Bool) (h:Bool) (n:Nat) (j:List Value) (x:List (DataW H × List MemPlace)),j.length=b->
   x.length=fs.length->(∀(i:Nat) (y:Field),fs[i]? =V y->DataW.trod d P W c s h n y.type ((j.drop y.offset).take (P.cellsOf y.type))=x[i]?)->
   (∀k∈DataW.weightsEach P (fs.map (·.type)) (x.map (·.1)),k<=reachBytes)-> ∃a,good a/\qca W (f a) (j.drop off)
def qbr{x off a}(b:x.offset=off)(c:off+P.cellsOf x.type=a)(h:qar P x.type f good):qhP P [x] off a f good:=
 qoI b h c
def qat{x:Field}{fs:List Field}{off o c:Nat}(A:x.offset=off)(B:off+P.cellsOf x.type=o)(h:qar P x.type f good)(C:qhP P fs o c g good'):
  qhP P (x::fs) off c (λa:α × β=>f a.1++g a.2) λa=>good a.1/\good' a.2:=by
 intro H l W d s j n m D p q u v
 match D,q with
 | y::E,q=>
   have w:=u 0 x rfl;simp only[Kc,A] at w;obtain⟨a,F,G⟩:=h l W d s j n _ y.1 y.2 w λk r=>v k (by simp[DataW.weightsEach,r]);obtain⟨b,I,K⟩:=C l W d s j n m E p (by simpa using q) (λi z L=>u (i+1) z (by simpa using L)) λk r=>v k (by simp[DataW.weightsEach,r]);refine⟨(a,b),⟨F,I⟩,?_⟩;have:=G.append K;have e:(m.drop off).take (P.cellsOf x.type)++m.drop o=m.drop off:=by
    rw[<-B,<-List.drop_drop,KC]
   rwa[e] at this
def qa9{fs b}(o:P.underlying t=V (.struct fs.toArray))(s:P.cellsOf t=b)(h:qhP P fs 0 b f good):qar P t f good:=by
 intro H l W c u j p v d F w x;obtain⟨z,n,rfl,q,m,A,B⟩:=DataW.trod_struct o w;obtain⟨a,C,D⟩:=h l W c u j n v z (m.trans s) wa (λi y E=>B i y wg) λk r=>x k (by
  simp_all[DataW.weights])
 grind
def qpY{sz:Nat}(q:P.underlying t=V (.array 2 e))(M:P.cellsOf t=2 * sz)(C:P.cellsOf e=sz)(h:qar P e f good):
  qar P t (λa:α × α=>f a.1++f a.2) λa=>good a.1/\good a.2:=by
 intro H m W c u i o p d N j v;cases o with
 | zero=>simp[DataW.trod] at j
 | succ n=>
   unfold DataW.trod at j;simp only[q] at j;split at j
   .rename_i w;simp only[KU] at j;obtain⟨O,r,x⟩:=j;have D:Kk 2= [0,1]:=rfl;rw[D] at r;simp only[List.mapM_cons,List.mapM_nil,Option.bind_eq_bind,Option.pure_def,Option.bind_eq_some_iff,Option.some.injEq] at r;obtain⟨A,E,y,⟨B,F,z,rfl,rfl⟩,rfl⟩:=r;simp only[Prod.mk.injEq] at x;obtain⟨rfl, -⟩:=x;obtain⟨a,G,I⟩:=h m W c u i n _ A.1 A.2 E λk s=>v k (by simp[DataW.weights,q,DataW.weightsAll,s]);obtain⟨b,K,L⟩:=h m W c u i n _ B.1 B.2 F λk s=>v k (by simp[DataW.weights,q,DataW.weightsAll,s]);refine⟨(a,b),⟨G,K⟩,?_⟩;have:=I.append L;rw[C] at this;have e:(p.drop (0 * sz)).take sz++(p.drop (1 * sz)).take sz=p:=by
     rw[KQ,KR,KD,KB (l:=p.drop sz) wm,KC]
    rwa[e] at this
   .cases j
def ArgIs(P:Program)(t:TypeId)(xs:List PV)(y:IV):Prop:=
 match P.underlying t with
 | some (.struct _) | some (.array _ _)=>y= .agg (xs.map .p)
 | _=> ∃x,xs= [x]/\y= .p x
def qrK{x}(h:tag P t=V Z):ArgIs P t [x] (.p x):=by grind[ArgIs,tag]
def qrJ{xs}(h:tag P t=V Y):ArgIs P t xs (.agg (xs.map .p)):=by
 unfold ArgIs;unfold tag at h;cases a:P.underlying t with
 | none=>grind
 | some d=>grind
def M0(W:World):Mem:=⟨W,⟨λ_=>False,λ_=>U,λ_=>False⟩,λ_=>U⟩
def qo6{W}(c): ¬(M0 W).own c:=λh=>h.elim id λ⟨_,_,_,_,h,_⟩=>by cases h
def arg_rel{W:World}{r:Reach}{base:Nat}{v:Value}{xs:List PV}{y:IV}(b:K5 P W r base t v)(k:ArgIs P t xs y)(m:qca W xs v.cells.toList):VRel (M0 W) y v:=by
 have o:(M0 W).own=λ_=>False:=by funext c;exact propext ⟨qo6 c,False.elim⟩
 have l: ∀a:Array Value,v= .agg a->VRel (M0 W) (.agg (xs.map .p)) v:=by
  rintro⟨a⟩ rfl;have h:qca W xs a:=m;refine .agg _ a (by simp[h.1]) (λu d=>?_) λi x u j d=>?_
  .obtain⟨i,q,rfl⟩:=KA d;have j:=Ka (show i < xs.length by rw[h.1];exact q);exact(h.2 i _ _ j (Ka q)).1
  .simp only[Kf,KU] at j;obtain⟨x,j,rfl⟩:=j;exact .p _ _ (by rw[o];exact(h.2 i x u j d).2)
 unfold ArgIs at k;split at k
 .grind[K5]
 .grind[K5]
 .obtain⟨x,rfl,rfl⟩:=k;have w:=m.1;have:v.cells= #[v]\/ ∃a,v= .agg a:=by
   cases v<;>first | exact .inl rfl | exact .inr ⟨_,rfl⟩
  rcases this with n | ⟨a,rfl⟩
  .rw[n] at m;exact .p _ _ (by rw[o];exact(m.2 0 x v rfl rfl).2)
  simp_all[Cell.okWide,Cell.ok,K5]
def qne(W:World)(vs:List Value)(ys:List IV):Prop:=
 vs.length=ys.length/\ ∀(i:Nat) (y:IV) (v:Value),ys[i]? =V y->vs[i]? =V v->VRel (M0 W) y v
variable{H:Type}{enc:TypeId × Value->H}{W:World}
def qfS(k:laidOutB P=Y){l}(m:Below W.heap.size W l): ∀ {ts vs i a},
  (∀t∈ts,P.readableRec t=Y/\t < P.types.size)->DataW.TrodAll enc P W 0 (λ_=>Y) Y ts vs i a->(∀x∈a,x.block < W.heap.size)->
  DataW.TrodAll enc P l 0 (λb=>decide (b < W.heap.size)) Y ts vs i a
 | [], [], [],a,_,h,_=>h
 | t::ts,v::vs,d::i,a,n,h,c=>by
   obtain⟨p,q,o,r,rfl⟩:=h;obtain⟨s,u⟩:=n t (Kb ..);exact⟨p,q,Below.trod k s u o m (λx j=>c x (List.mem_append_left _ j)),qfS k m (λt w=>n t (Ke _ w)) r (λx j=>c x (List.mem_append_right _ j)),rfl⟩
 | [], [],_::_,_,_,h,_=>h.elim
 | [],_::_,_,_,_,h,_=>h.elim
 | _::_, [],_,_,_,h,_=>h.elim
 | _::_,_::_, [],_,_,h,_=>h.elim
def qlC{f:FuncId}{fn:Func}{s:ChangeSpec}{tb:TypeId}(K:laidOutB P=Y)(l:fn.resultTypes= #[tb])(A:P.underlying tb=V .bool)
  (m:fn.params.toList.all (λt=>P.readableRec t && decide (t < P.types.size))=Y) (c:s.vars= [])
  {args:Array Value} {z L:List (DataW H)} {j:List MemPlace} (E:DataW.Whole enc P fn.params.toList s.vars Z W args.toList z L j)
  (a:s.fn H (z++ [])= {results:= [.lit (.bool Y)],args:=z})
  {n:List IV} (d:qne W args.toList n) (hp:PCall P f n [] (scb Y)):
  Calls P f args W λe F=> ∃v,e= .returned v/\s.post enc P fn Z Y Z Z W args v F:=by
 have M:HRel 0 [] (M0 W):=⟨⟨λ_ _ h=>wu,λ_ _ h=>wu,λ_ _ _ _ _ _ _ _ _ h=>wu,λ_ N=>N.elim,λ_ _ _ _ _ h=>wu⟩,λb h=>h.elim,λb=>rfl⟩;have B:=hp ⟨0, []⟩ wb (M0 W) args.toList M d.1 λi y v O C=>d.2 i y v O C
 refine Calls.mono (show Calls P f args (M0 W).w _ from B) ?_;rintro e F ⟨Q,R,l',r,rfl,o,hh,S,rfl,rfl,rfl⟩;obtain⟨v,rfl,C⟩:=S;have:=C.sc_inv;subst this;have G:Below W.heap.size W Q.w:=⟨o.os,o.tape,o.output,o.size,λk T=>(o.keep k T (qo6 k)).1⟩;have u:=E;obtain⟨p,q,B,I,rfl,_,_⟩:=E;rw[c] at I;obtain⟨rfl,rfl⟩:=trodVars_none I;have D: ∀x∈p,x.block < W.heap.size:=λx X=>by simpa using u.lt x wn
 refine⟨_,rfl,z, [],p++ [], [],p, [],u,?_,?_,?_,G.frame _,λh=>by grind⟩
 .rw[a,l];exact trodAll_mk1 (shut_bool A Y)
 .rw[a];exact qfS K G (λt ht=>by grind) B D
 .rw[a,c];rfl
def qe7(P:Program)(ts:List TypeId){d:Type}(i:d->List IV)(good:d->Prop):Prop:=
 ∀ {H:Type} (enc:TypeId × Value->H) (W:World) (b:Nat) (c:List Value) (h:List (DataW H)) (p:List MemPlace),
   (∀(j:Nat) (t:TypeId) (v:Value),ts[j]? =V t->c[j]? =V v->K5 P W .any b t v)->DataW.TrodAll enc P W 0 (λ_=>Y) Y ts c h p->
   (∀n∈DataW.weightsEach P ts h,n<=reachBytes)-> ∃a,good a/\qne W c (i a)
def qk6:qe7 P [] (λ_:Unit=> []) λ_=>True:=by
 intro H enc W b a d p _ h _;cases a with
 | nil=>exact⟨(),trivial,rfl,wb⟩
 | cons v a=>cases d<;>exact h.elim
def argsOpen_cons{r}{ts}{k}{c}{y:α->IV}(h:qar P t f good)(G: ∀a,ArgIs P t (f a) (y a))(I:qe7 P ts k c):
  qe7 P (t::ts) (λa:α × r=>y a.1::k a.2) λa=>good a.1/\c a.2:=by
 intro H enc W l s w X m x F
 match s,w,x with
 | v::s,d::w,x=>
   obtain⟨p,q,⟨o,K⟩,L, -⟩:=x;obtain⟨a,M,N⟩:=h enc W 0 _ _ o _ d p K λn A=>F n (by simp[DataW.weightsEach,A]);obtain⟨b,O,Q,R⟩:=I enc W l s w q (λj S T B C=>m (j+1) S T wn wn) L λn A=>F n (by simp[DataW.weightsEach,A]);refine⟨(a,b),⟨M,O⟩,wg,λi z u D E=>?_⟩;cases i with
   | zero=>simp at D E;subst D;subst E;exact arg_rel (m 0 t v rfl rfl) (G a) N
   | succ i=>grind
def qor{C:Checked}{I:Os}(l:I.Started){f:FuncId}{fn:Func}{s:ChangeSpec}{tb:TypeId}{H:Type}{enc:TypeId × Value->H}(K:ownKnob C.prog.godebug=U)(o:C.prog.inits.idxOf? f=U)(L:C.prog.funcs[f]? =V fn)
  (m: ∃(w:World) (c:Tape) (i:Input),w.os=I/\(w.forCall c i).Shaped C.prog/\i.vars= []/\Input.okWide C.prog (w.forCall c i) .any w.heap.size f i/\
   s.pre6 enc C.prog fn [] Z (w.forCall c i).memory i.args/\({}:Assume).holds C.prog (lone (Frame.enter C.prog f i.args .normal) [] (w.forCall c i)))
  (hl:laidOutB C.prog=Y) (x:fn.resultTypes= #[tb]) (M:C.prog.underlying tb=V .bool)
  (y:fn.params.toList.all (λt=>C.prog.readableRec t && decide (t < C.prog.types.size))=Y) (b:s.vars= [])
  (r: ∀k:List (DataW H),k.length=fn.params.toList.length->s.fn H (k++ [])= {results:= [.lit (.bool Y)],args:=k})
  {R:Type} {z:R->List IV} {good:R->Prop} (ho:qe7 C.prog fn.params.toList z good) (hp: ∀a,good a->PCall C.prog f (z a) [] (scb Y)):
  ReturnsInHanded {} C I f .any (s.pre6 enc C.prog fn [] Z) (s.post enc C.prog fn Z Y Z Z):=by
 refine returnsInHanded_of_change_sized K l o L m ?_;intro W A args k gs G B S _ D _;have N:=S;obtain⟨p,q,T,X,rfl,_,_⟩:=S;rw[b] at X;obtain⟨rfl,rfl⟩:=trodVars_none X;have O:s.plain.varTypes C.prog= []:=by
  have:s.plain.vars=s.vars:=rfl;simp[DataSpec.varTypes,this,b]
 rw[O,Km,Km] at D;have E: ∀ {F:List TypeId} {u:List Value} {k:List (DataW H)} {Q:List MemPlace},DataW.TrodAll enc C.prog W 0 (λ_=>Y) Y F u k Q->k.length=F.length:=by
  intro F;induction F with
  | nil=>intro u k Q h;cases u<;>cases k<;>first | rfl | exact h.elim
  | cons t F ih=>
    intro u k Q h;cases u with
    | nil=>exact h.elim
    | cons v u=>
      cases k with
      | nil=>exact h.elim
      | cons d k=>obtain⟨_,_,_,h2,_⟩:=h;simp[ih h2]
 obtain⟨a,a1,a2⟩:=ho enc W A args.toList k p (λj t v ht hv=>B j t v (by simpa using ht) (by simpa using hv)) T λn hn=>by simpa using List.all_eq_true.1 D n hn
 exact qlC hl x M y b N (r k (E T)) a2 (hp a a1)
end Go.Idl
namespace Go.Idl
variable{P:Program}{h0:IH}
def tcn(P:Program):Nat->TypeId->List (Nat × Nat)
 | 0,_=> []
 | n+1,t=>match P.underlying t with
   | some (.slice e)=> [(0,(tsz P e).getD 0)]
   | some (.struct a)=>a.toList.flatMap λf=>(tcn P n f.type).map λp=>(p.1+f.offset,p.2)
   | some (.array m e)=>(Kk m).flatMap λi=>(tcn P n e).map λp=>(p.1+i * (tsz P e).getD 0,p.2)
   | _=> []
def tcs(P:Program)(t:TypeId):List (Nat × Nat):=tcn P 9 t
def qfu(sz:Nat):IV->IV
 | .p (.sc (.slice U 0 0))=> .p (.imm sz [])
 | .p .emp=> .p (.imm sz [])
 | x=>x
def qh8:Nat->Nat->List IV->List IV
 | _,_, []=> []
 | 0,s,x::r=>qfu s x::r
 | o+1,s,x::r=>x::qh8 o s r
def qh9:List (Nat × Nat)->List IV->List IV
 | [],c=>c
 | (o,s)::r,c=>qh9 r (qh8 o s c)
def ican(l:List (Nat × Nat)):IV->IV
 | .agg c=> .agg (qh9 l c)
 | .p x=>match l with
   | []=> .p x
   | (_,s)::_=>qfu s (.p x)
 | y=>y
def qbw(P:Program):List TypeId->List IV->List IV
 | [],a=>a
 | _::_, []=> []
 | t::b,x::a=>ican (tcs P t) x::qbw P b a
def qlu(sz x):wk x (qfu sz x):=by
 unfold qfu;split
 .exact .inr ⟨.inr rfl,sz,rfl⟩
 .exact .inr ⟨.inl rfl,sz,rfl⟩
 .exact wk_refl x
def wkp_trans{a b c}(h:wkp a b)(k:wkp b c):wkp a c:=by
 rcases h with rfl | ⟨e,s,rfl⟩
 .omega
 .rcases k with rfl | ⟨d,f,rfl⟩
  .exact .inr ⟨e,s,rfl⟩
  grind
def qrv(x): ∀y z,wk x y->wk y z->wk x z:=by
 apply IV.rec (motive_1:=λx=> ∀y z,wk x y->wk y z->wk x z) (motive_2:=λl=> ∀y z,wks l y->wks y z->wks l z)
 .intro a y z h k;cases y<;>simp[wk] at h
  cases z<;>simp[wk] at k
  exact wkp_trans h k
 .grind[wk]
 .grind[wk]
 .grind[wk]
 .grind[wk]
 .intro e i y z h k;cases y<;>simp[wk] at h
  cases z<;>simp[wk] at k
  exact i _ _ h k
 .intro e i y z h k;cases y<;>simp[wk] at h
  cases z<;>simp[wk] at k
  exact i _ _ h k
 .grind[wk]
 .simp_all[wks]
 .intro x l j m y z h k;cases y with
  | nil=>simp[wks] at h
  | cons y p=>
    cases z<;>grind[wks]
def wks_trans: ∀ {l m n},wks l m->wks m n->wks l n
 | [],m,n,h,k=>by simp[wks] at h;grind
 | x::l, [],n,h,k=>by simp[wks] at h
 | x::l,y::m, [],h,k=>by simp[wks] at k
 | x::l,y::m,z::n,h,k=>⟨qrv x y z h.1 k.1,wks_trans h.2 k.2⟩
def qjn: ∀(o sz l),wks l (qh8 o sz l)
 | o,sz, []=>by cases o<;>exact wks_refl []
 | 0,sz,x::r=>⟨qlu sz x,wks_refl r⟩
 | o+1,sz,x::r=>⟨wk_refl x,qjn o sz r⟩
def qlt: ∀(l cs),wks cs (qh9 l cs)
 | [],cs=>wks_refl cs
 | (o,s)::r,cs=>wks_trans (qjn o s cs) (qlt r _)
def qr8(l x):wk x (ican l x):=by
 unfold ican;split
 .exact qlt l _
 .split
  .exact wk_refl _
  .exact qlu _ _
 .exact wk_refl _
def qcV: ∀(ts xs),wks xs (qbw P ts xs)
 | [],xs=>wks_refl xs
 | _::_, []=>wks_refl []
 | _::ts,x::xs=>⟨qr8 _ x,qcV ts xs⟩
section
variable{sz:Nat}{n:Int}{k:IntKind}
@[go_sem] def icanP_nil:qfu sz (.p (.sc (.slice U 0 0)))= .p (.imm sz []):=(rfl)
@[go_sem] def icanP_imm{s rows}:qfu sz (.p (.imm s rows))= .p (.imm s rows):=(rfl)
@[go_sem] def ican_ref{l b g o r}:ican l (.ref b g o r)= .ref b g o r:=(rfl)
@[go_sem] def ican_ptr{l b g o r}:ican l (.ptr b g o r)= .ptr b g o r:=(rfl)
@[go_sem] def ican_clo{l f a c}:ican l (.clo f a c)= .clo f a c:=(rfl)
@[go_sem] def ican_nil{x}:ican [] (.p x)= .p x:=(rfl)
@[go_sem] def ican_cons{l o x}:ican ((o,sz)::l) (.p x)=qfu sz (.p x):=(rfl)
@[go_sem] def ican_agg{l cs}:ican l (.agg cs)= .agg (qh9 l cs):=(rfl)
end
attribute [go_sem] qh8 qh9 qbw
def qcj(P:Program)(c:FuncId)(zs:List IV)(G:Nat->Option IBlk)(o:Prop)(K:IV->List Nat->Prop):Prop:=
 o-> ∃x R,PCall P c zs R x/\bel 0 x/\(∀p∈R,G p.1=V p.2)/\K x (R.map (·.1))
def qmN{c zs z G o K}(h:zs=z):qcj P c zs G o K=qcj P c z G o K:=wy
attribute [congr] qmN
def qaa{c zs G o K x}(hp:PCall P c zs [] x)(a:bel 0 x)(h:K x []):qcj P c zs G o K:=
 λ_=>⟨x, [],hp,a,wb,h⟩
def qqH{G:Nat->Option IBlk}(x:IV): ∀y,frz G x=V y->(∀b∈refs x,∃blk,G b=V blk)/\ ∀e:Nat->Option IBlk,(∀b∈refs x,e b=G b)->frz e x=V y:=by
 apply IV.rec (motive_1:=λx=> ∀y,frz G x=V y->(∀b∈refs x,∃blk,G b=V blk)/\ ∀e:Nat->Option IBlk,(∀b∈refs x,e b=G b)->frz e x=V y)
  (motive_2:=λl=> ∀m,frzs G l=V m->(∀b∈qaN l,∃blk,G b=V blk)/\ ∀e:Nat->Option IBlk,(∀b∈qaN l,e b=G b)->frzs e l=V m)
 .simp_all[refs,frz]
 .grind[frz,refs]
 .grind[frz,refs]
 .intro b y h;simp[frz] at h
 .grind[frz,refs]
 .simp_all[frz,KU,refs]
 .simp_all[frz,KU,refs]
 .intro y h;simp[frz] at h
 .simp_all[qaN,frzs]
 grind[frzs,qaN]
def qpw{G l ys}(h:frzs G l=V ys):(∀b∈qaN l,∃blk,G b=V blk)/\ ∀a:Nat->Option IBlk,(∀b∈qaN l,a b=G b)->frzs a l=V ys:=by
 have:=qqH (G:=G) (.agg l) (.agg ys) (by simp[frz,h]);simp_all[refs,frz]
def qeA{G b}: ∀ {l},b∈l->look (seen G l) b=G b
 | [],h=>by grind
 | c::r,h=>by
   unfold seen;by_cases e:c=b
   .subst e;cases f:G c with
    | some a=>simp[look]
    | none=>
      by_cases d:c∈r
      .simpa[f] using qeA (G:=G) d
      .cases g:look (seen G r) c with
       | none=>rfl
       | some a=>have:=seen_spec _ (look_mem g);grind
   .have d:b∈r:=by
     grind
    cases f:G c with
    | some a=>simp[look,if_neg e];exact qeA d
    | none=>exact qeA d
def qjP{G}: ∀ {l},(∀b∈l,∃blk,G b=V blk)->(seen G l).map (·.1)=l
 | [],_=>rfl
 | c::r,h=>by
   obtain⟨blk,a⟩:=h c (Kb ..);simp[seen,a,qjP λb a=>h b (Ke _ a)]
def qkc(P:Program)(c:FuncId)(zs:List IV)(K:IV->Prop):Prop:= ∃x,PCall P c zs [] x/\qb9 x=Y/\K x
def qmR{c zs z K}(h:zs=z):qkc P c zs K=qkc P c z K:=wy
attribute [congr] qmR
def qaJ{c zs G o K}
  (h:qas (frzs G zs) (λz=>qkc P c z λx=>K x (qaN zs)) False):qcj P c zs G o K:=by
 intro _;cases a:frzs G zs with
 | none=>rw[a] at h;exact h.elim
 | some z=>
   rw[a] at h;obtain⟨x,e,d,f⟩:=h;obtain⟨g,i⟩:=qpw a;refine⟨x,seen G (qaN zs),qit (i _ λb j=>qeA j) d e,qqd 0 x d,seen_spec,?_⟩;rw[qjP g];omega
def qa3{c zs K x}(hp:PCall P c zs [] x)(a:qb9 x=Y)(h:K x):qkc P c zs K:=⟨x,hp,a,h⟩
section
variable{Q:Exit->qab->Prop}{k:List It}{all:Array Oper}{r:List Oper}{dst:Option Tmp}{ty:TypeId}{pos:String}{aft:Array Edge}{N:Nat}{s:List (Nat × IV)}{d:List IDef}{nx:Nat}{l:List (Nat × IBlk)}
 {g:Option (Nat × Bool)} {f:Operand} {args:List Operand} {ts:List TypeId} {K:qab->List FP->Prop} {acc:List FP}
theorem qng(n)
  (h:qas (qao (ev s) f args) (λq=>(qam all s ⟨dst, .call {callee:= .value f,args:=⟨args⟩,argTypes:=⟨ts⟩},ty,pos,aft,g⟩=V Y/\fnOk P q.1=Y/\dOk N dst=Y)/\
   qcj P q.1 (qbw P ts q.2) (look (l++h0.m)) True λx _=>vc P h0 Q n (.ops all r::k) ⟨N,putS dst x s,d,nx,l⟩) False):
  IRun P h0 (.ops all (⟨dst, .call {callee:= .value f,args:=⟨args⟩,argTypes:=⟨ts⟩},ty,pos,aft,g⟩::r)::k) ⟨N,s,d,nx,l⟩ Q:=by
 cases a:qao (ev s) f args with
 | none=>rw[a] at h;exact h.elim
 | some q=>
   rw[a] at h;obtain⟨⟨b,c,e⟩,i⟩:=h;obtain⟨x,R,p,o,j,m⟩:=i trivial;exact qmf n a (p.weak (qcV ts q.2)) j b c e m
theorem qk8
  (h:qas (qao (ev s) f args) (λq=>(qam all s ⟨dst, .call {callee:= .value f,args:=⟨args⟩,argTypes:=⟨ts⟩},ty,pos,aft,g⟩=V Y/\fnOk P q.1=Y/\dOk N dst=Y)/\
   qcj P q.1 (qbw P ts q.2) (look (l++h0.m)) True λx R=>dvc P h0 all K r ⟨N,putS dst x s,d,nx,l⟩ (acc++ [(R, [])])) False):
  DRun P h0 all (⟨dst, .call {callee:= .value f,args:=⟨args⟩,argTypes:=⟨ts⟩},ty,pos,aft,g⟩::r) ⟨N,s,d,nx,l⟩ acc K:=by
 cases a:qao (ev s) f args with
 | none=>rw[a] at h;exact h.elim
 | some q=>
   rw[a] at h;obtain⟨⟨b,c,e⟩,i⟩:=h;obtain⟨x,R,p,j,m,o⟩:=i trivial;exact qiJ a (p.weak (qcV ts q.2)) m b c e j o
end
end Go.Idl
namespace Go.Idl
variable{P:Program}{h0:IH}
mutual
def rn(b:Nat):IV->IV
 | .ref _ g o l=> .ref b g o l
 | .ptr _ g r j=> .ptr b g r j
 | .mp _=> .mp b
 | .clo f x c=> .clo f (rns b x) (rns b c)
 | .agg cs=> .agg (rns b cs)
 | .tup cs=> .tup (rns b cs)
 | .p x=> .p x
 | .dead=> .dead
def rns(b:Nat):List IV->List IV
 | []=> []
 | x::r=>rn b x::rns b r
end
mutual
def only(b:Nat):IV->Bool
 | .ref c _ _ _=>c==b
 | .agg cs=>qki b cs
 | .tup cs=>qki b cs
 | .p _=>Y
 | .dead=>Y
 | _=>Z
def qki(b:Nat):List IV->Bool
 | []=>Y
 | x::r=>only b x && qki b r
end
def PNew(P:Program)(f:FuncId)(args:List IV)(x:IV)(blk:IBlk):Prop:=
 ∀(n:Nat) (m:List (Nat × IBlk)) (M:Mem) (c:List Value),HRel n m M->c.length=args.length->(∀(i:Nat) (y:IV) (v:Value),args[i]? =V y->c[i]? =V v->VRel M y v)->
  ∀b,¬M.H.A b->Calls P f ⟨c⟩ M.w λe w=> ∃a,a.w=w/\qaf M a/\MRel a/\a.H=M.H.put b blk/\ ∃v,e= .returned v/\VRel a (rn b x) v
section
variable{fn:Func}{x0:IV}{blk0:IBlk}{N:Nat}{s:List (Nat × IV)}{d:List IDef}{nx:Nat}{l:List (Nat × IBlk)}
end
attribute [go_sem] rn rns only qki
def callN(P:Program)(c:FuncId)(zs:List IV)(K:IV->IBlk->Prop):Prop:= ∃x b,PNew P c zs x b/\K x b
def qmQ{c zs z K}(h:zs=z):callN P c zs K=callN P c z K:=wy
attribute [congr] qmQ
section
variable{Q:Exit->qab->Prop}{k:List It}{all:Array Oper}{r:List Oper}{dst:Option Tmp}{ty:TypeId}{pos:String}{aft:Array Edge}{N:Nat}{s:List (Nat × IV)}{d:List IDef}{nx:Nat}{l:List (Nat × IBlk)}
 {g:Option (Nat × Bool)} {f:Operand} {args:List Operand} {ts:List TypeId} {K:qab->List FP->Prop} {acc:List FP}
end
end Go.Idl
namespace Go.Idl
variable{P:Program}{h0:IH}
mutual
def fw(G:Nat->Option IBlk)(ids:List Nat):IV->IV->Prop
 | .ref b g off len,y=>match y with
   | .p q=>b∈ids/\qas (frz G (.ref b g off len)) (λz=>wk z (.p q)) False
   | y=> .ref b g off len=y
 | .agg xs,y=>match y with
   | .agg ys=>fws G ids xs ys
   | _=>False
 | .tup xs,y=>match y with
   | .tup ys=>fws G ids xs ys
   | _=>False
 | .p a,y=>wk (.p a) y
 | .ptr b g o l,y=> .ptr b g o l=y
 | .mp b,y=> .mp b=y
 | .clo f x c,y=> .clo f x c=y
 | .dead,y=> .dead=y
def fws(G:Nat->Option IBlk)(ids:List Nat):List IV->List IV->Prop
 | [],y=>y= []
 | x::xs,y=>match y with
   | y::ys=>fw G ids x y/\fws G ids xs ys
   | []=>False
end
def qgT{G ids}: ∀ {l m},fws G ids l m->m.length=l.length/\ ∀(i:Nat) (x y),l[i]? =V x->m[i]? =V y->fw G ids x y
 | [],m,h=>by simp[fws] at h;grind
 | x::l, [],h=>by simp[fws] at h
 | x::l,y::m,h=>by
   obtain⟨e,f⟩:=qgT h.2;refine⟨wg,λi a b c d=>?_⟩;cases i with
   | zero=>simp at c d;subst c;subst d;exact h.1
   | succ i=>grind
def imm_wk{sz rows q}(h:wkp (.imm sz rows) q):q= .imm sz rows:=by rcases h with h | ⟨h,_⟩<;>simp_all
def fw_fz{G:Nat->Option IBlk}{ids:List Nat}(x:IV): ∀y,fw G ids x y->Fz G ids x y:=by
 apply IV.rec (motive_1:=λx=> ∀y,fw G ids x y->Fz G ids x y) (motive_2:=λl=> ∀x∈l,∀y,fw G ids x y->Fz G ids x y)
 .intro a y h;exact wk_fz _ y h
 .intro b g o j y h;cases y with
  | p q=>
    obtain⟨m,e⟩:=h;cases d:frz G (.ref b g o j) with
    | none=>rw[d] at e;exact e.elim
    | some z=>
      rw[d,qaQ] at e;have s:=(frz_Fz (.ref b g o j) z ids d (by simp[refs,m])).1;simp only[frz] at d;split at d
      .split at d
       .simp only[KU] at d;obtain⟨w,_,rfl⟩:=d;have:=imm_wk e;simp_all
       .cases d
      .cases d
  | _=>simp only[fw] at h;(cases h;try exact .refl _)
 .intro b g o j y h;simp only[fw] at h;subst h;exact .refl _
 .intro b y h;simp only[fw] at h;subst h;exact .refl _
 .intro A f c _ _ y h;simp only[fw] at h;subst h;exact .refl _
 .intro t n y h;cases y<;>simp only[fw] at h
  obtain⟨m,e⟩:=qgT h;exact .agg _ _ m λi x y k r=>n x (Kl k) y (e i x y k r)
 .intro t n y h;cases y<;>simp only[fw] at h
  obtain⟨m,e⟩:=qgT h;exact .tup _ _ m λi x y k r=>n x (Kl k) y (e i x y k r)
 .intro y h;simp only[fw] at h;subst h;exact .refl _
 .simp
 simp_all
def fwRs(G:Nat->Option IBlk)(ids:List Nat)(a b:List (List IV)):Prop:=
 a=b\/b.length=a.length/\ ∀(i:Nat) (r c:List IV),a[i]? =V r->b[i]? =V c->fws G ids r c
def fwB(G:Nat->Option IBlk)(ids:List Nat):IBlk->IBlk->Prop
 | .arr b g a,y=>match y with
   | .arr s c r=>b=s/\g=c/\fwRs G ids a r
   | _=>False
 | .mp e,y=> .mp e=y
 | .ob k v,y=> .ob k v=y
def fwB_fz{G ids x y}(h:fwB G ids x y):FzB G ids x y:=by
 cases x with
 | arr t g d=>
   cases y with
   | mp e=>exact h.elim
   | ob k v=>exact h.elim
   | arr s u a=>
     obtain⟨rfl,rfl,h⟩:=h;rcases h with rfl | ⟨f,l⟩
     .exact .refl _
     .refine⟨rfl,rfl,f,λi b r m c=>?_⟩;obtain⟨n,o⟩:=qgT (l i b r m c);exact⟨n,λj x y p q=>fw_fz x y (o j x y p q)⟩
 | mp e=>subst h;exact .refl _
 | ob k v=>subst h;exact .refl _
section
variable{G:Nat->Option IBlk}{ids:List Nat}{a:PV}{x y:IV}{xs ys:List IV}{sz sz' g g':Nat}{rs rs':List (List IV)}
@[go_sem] theorem fw_p:fw G ids (.p a) y=wk (.p a) y:=wv
@[go_sem] theorem fw_agg:fw G ids (.agg xs) (.agg ys)=fws G ids xs ys:=wv
@[go_sem] theorem fw_tup:fw G ids (.tup xs) (.tup ys)=fws G ids xs ys:=wv
@[go_sem] theorem fw_ref{b g o l c g' o' l'}:fw G ids (.ref b g o l) (.ref c g' o' l')=(b=c/\g=g'/\o=o'/\l=l'):=by simp[fw]
@[go_sem] theorem fw_frz{b g o l}:fw G ids (.ref b g o l) (.p a)=(b∈ids/\qas (frz G (.ref b g o l)) (λz=>wk z (.p a)) False):=wv
@[go_sem] theorem fw_ptr{b g o l c g' o' l'}:fw G ids (.ptr b g o l) (.ptr c g' o' l')=(b=c/\g=g'/\o=o'/\l=l'):=by simp[fw]
@[go_sem] theorem fws_nil:fws G ids [] []=True:=by simp[fws]
@[go_sem] theorem fws_cons:fws G ids (x::xs) (y::ys)=(fw G ids x y/\fws G ids xs ys):=wv
@[go_sem] theorem fwRs_self:fwRs G ids rs rs=True:=eq_true (.inl rfl)
@[go_sem] theorem qpx{r m:List IV}:fwRs G ids (r::rs) (m::rs')=(fws G ids r m/\fwRs G ids rs rs'):=by
  have s: ∀z:List IV,wks z z:=wks_refl;have n: ∀(x:IV),fw G ids x x:=by
   intro x;apply IV.rec (motive_1:=λx=>fw G ids x x) (motive_2:=λl=>fws G ids l l)
   .intro a;exact wk_refl _
   .intro b g o l;simp only[fw]
   .intro b g o l;simp only[fw]
   .intro b;simp only[fw]
   .intro f a c _ _;simp only[fw]
   .intro p h;simp only[fw];exact h
   .intro p h;simp only[fw];exact h
   .simp only[fw]
   .simp only[fws]
   .intro x l k j;exact⟨k,j⟩
  have w: ∀z:List IV,fws G ids z z:=by
   intro z;induction z<;>simp_all[fws]
  apply propext;constructor
  .rintro(h | ⟨k,j⟩)
   .cases h;exact⟨w _, .inl rfl⟩
   .exact⟨j 0 r m rfl rfl, .inr ⟨by simpa using k,λi a b e d=>j (i+1) a b (by simpa using e) (by simpa using d)⟩⟩
  .rintro⟨k,j⟩;refine .inr ?_;rcases j with rfl | ⟨j,t⟩<;>grind
theorem qnl(x):fw G ids x x:=by
 apply IV.rec (motive_1:=λx=>fw G ids x x) (motive_2:=λl=>fws G ids l l)
 .intro a;exact wk_refl _
 .intro b g o l;rfl
 .intro b g o l;rfl
 .intro b;rfl
 .intro f a c _ _;rfl
 .intro d h;simp[fw];omega
 .intro d h;simp[fw];omega
 .rfl
 .rfl
 .intro x l e i;exact⟨e,i⟩
theorem fws_self: ∀z:List IV,fws G ids z z
 | []=>by rfl
 | x::l=>⟨qnl x,fws_self l⟩
@[go_sem] theorem fwRs_app{us}:fwRs G ids (us++rs) (us++rs')=fwRs G ids rs rs':=by
  induction us with
  | nil=>rfl
  | cons u us i=>
    rw[Kd,Kd,qpx,i];exact propext ⟨λh=>h.2,λh=>⟨fws_self u,h⟩⟩
@[go_sem] theorem fwB_arr:fwB G ids (.arr sz g rs) (.arr sz' g' rs')=(sz=sz'/\g=g'/\fwRs G ids rs rs'):=wv
end
def lk(l:List (Nat × IBlk)):Nat->Option IBlk:=look l
@[go_sem] def lk_app{l i}:lk l i=look l i:=(rfl)
def fslotsIn(S:qab)(m:List (Nat × IBlk))(ids:List Nat)(nx:Nat):List (Nat × IV)->Prop
 | []=>True
 | (t,y)::r=>qas (look S.s t) (λz=>fw (lk (S.l++m)) ids z y) False/\(nx=S.nx\/bel nx y)/\fslotsIn S m ids nx r
def fblksIn(S:qab)(m:List (Nat × IBlk))(ids:List Nat)(nx:Nat):List (Nat × IBlk)->Prop
 | []=>True
 | (b,c)::r=>qas (look (S.l++m) b) (λz=>fwB (lk (S.l++m)) ids z c) False/\(nx=S.nx\/b < nx/\blkBel nx c)/\fblksIn S m ids nx r
def gone(n:Nat)(l':List (Nat × IBlk)):List Nat->Prop
 | []=>True
 | b::r=>(n<=b/\(l'.all λp=>p.1 != b)=Y)/\gone n l' r
def qgi{S m ids nx}: ∀ {s},fslotsIn S m ids nx s-> ∀p∈s,(∃z,look S.s p.1=V z/\fw (look (S.l++m)) ids z p.2)/\(nx=S.nx\/bel nx p.2)
 | [],_,p,h=>by grind
 | (t,y)::r,h,p,c=>by
   rcases List.mem_cons.1 c with rfl | c
   .refine⟨?_,h.2.1⟩;have b:=h.1;cases d:look S.s t with
    | none=>rw[d] at b;exact b.elim
    | some z=>rw[d] at b;exact⟨z,rfl,b⟩
   .exact qgi h.2.2 p c
def qhk{S m ids nx}: ∀ {s},fblksIn S m ids nx s-> ∀p∈s,(∃z,look (S.l++m) p.1=V z/\fwB (look (S.l++m)) ids z p.2)/\(nx=S.nx\/p.1 < nx/\blkBel nx p.2)
 | [],_,p,h=>by grind
 | (b,f)::r,h,p,d=>by
   rcases List.mem_cons.1 d with rfl | d
   .refine⟨?_,h.2.1⟩;have c:=h.1;cases e:look (S.l++m) b with
    | none=>rw[e] at c;exact c.elim
    | some z=>rw[e] at c;exact⟨z,rfl,c⟩
   .exact qhk h.2.2 p d
def qls{n l'}: ∀ {l},gone n l' l-> ∀b∈l,n<=b/\ ∀p∈l',p.1≠b
 | [],_,b,h=>by grind
 | c::r,h,b,d=>by
   rcases List.mem_cons.1 d with rfl | d
   .exact⟨h.1.1,λp e=>by have:=List.all_eq_true.1 h.1.2 p e;grind⟩
   .exact qls h.2 b d
structure FCut(h0:IH)(ids:List Nat)(S S':qab):Prop where
 n:S'.n=S.n
 d:S'.d=S.d
 dbel:S.d= []\/S'.nx=S.nx
 low:h0.nx<=S'.nx
 top:S'.nx<=S.nx
 slots:fslotsIn S h0.m ids S'.nx S'.s
 blks:fblksIn S h0.m ids S'.nx S'.l
 others:qdX h0.nx S'.l S.l
 gone:gone h0.nx S'.l ids
def FCut.sub{ids S S'}(h:FCut h0 ids S S'):Sub h0 ids S S':=by
 refine⟨h.n,h.d,h.dbel,h.low,h.top,λp b=>?_,λp b=>?_,oldIn_mem h.others,qls h.gone⟩
 .obtain⟨⟨z,c,d⟩,e⟩:=qgi h.slots p b;exact⟨z,c,fw_fz _ _ d,e⟩
 .obtain⟨⟨z,c,d⟩,e⟩:=qhk h.blks p b;exact⟨z,c,fwB_fz d,e⟩
def qac{ι:Type}{c k S Q}(n m)(I:ι->Prop)(f:ι->qab)(j:ι->Nat)(i0 d)(q:I i0)(r:FCut h0 d S (f i0))
  (s: ∀i,I i->vc P h0 (qdV P h0 Q n k λS'=> ∃b ids,I b/\j b < j i/\FCut h0 ids S' (f b)) m [.code c] (f i)):IRun P h0 (.code (.loop c)::k) S Q:=by
 refine qjt (ι:= {i // I i}) (λi=>f i.1) (λi=>j i.1) ⟨i0,q⟩ ⟨d,r.sub⟩ λ⟨i,p⟩=>?_;have:=vc_sound _ _ _ _ (s i p);refine qbi.mono this λe S' h=>?_;have h:qdV P h0 Q n k (λS'=> ∃b ids,I b/\j b < j i/\FCut h0 ids S' (f b)) e S':=h;cases e with
 | normal=>obtain⟨b,ids,t,u,v⟩:=h;exact⟨⟨b,t⟩,ids,u,v.sub⟩
 | exit id=>
   simp[qdV] at h;cases o:qbT id k with
   | none=>rw[o] at h;exact(show after P h0 Q k (.exit id) S' from after_exit_none o h)
   | some z=>rw[o] at h;exact(show after P h0 Q k (.exit id) S' from after_exit o (vc_sound Q n _ _ h))
 | ret=>exact(show after P h0 Q k .ret S' from after_ret h)
 | panic w=>exact(show after P h0 Q k (.panic w) S' from after_panic h)
 | goto l=>exact h
 | outgrown=>exact h
def qbf(n){k S Q}(ids S')(b:Live k)(h:FCut h0 ids S S')(c:vc P h0 Q n k S'):IRun P h0 k S Q:=by
 refine qgo h.sub ?_ (vc_sound Q n _ _ c);cases k with
 | nil=>exact b.elim
 | cons x k=>cases x<;>first | rfl | trivial
attribute [go_sem] fslotsIn fblksIn gone
end Go.Idl
namespace Go.Idl
variable{P:Program}{h0:IH}
def pickS:List Nat->List (Nat × IV)->List (Nat × IV)
 | [],_=> []
 | t::b,s=>match look s t with
   | some x=>(t,x)::pickS b s
   | none=>pickS b s
def pickS_look{s}: ∀ {T p},p∈pickS T s->look s p.1=V p.2
 | [],p,h=>by cases h
 | t::c,p,h=>by
   unfold pickS at h;split at h
   .rcases List.mem_cons.1 h with rfl | h
    .omega
    .exact pickS_look h
   .exact pickS_look h
def walk_trim(T){k N s d nx l Q}(c:Live k)(e:h0.nx<=nx)
  (h:IRun P h0 k ⟨N,pickS T s,d,nx,ddp l⟩ Q):IRun P h0 k ⟨N,s,d,nx,l⟩ Q:=by
 refine qgo (ids:= []) (S':=⟨N,pickS T s,d,nx,ddp l⟩) ⟨rfl,rfl, .inr rfl,e,KI _,λp b=>⟨p.2,pickS_look b, .refl _, .inl rfl⟩,λp b=>?_,λp b=> .inr (qec b),wb⟩ ?_ h
 .have:=qed b;exact⟨p.2,by rw[qae,this], .refl _, .inl rfl⟩
 .cases k with
  | nil=>exact c.elim
  | cons x k=>cases x<;>first | rfl | trivial
attribute [go_sem] pickS ddp
end Go.Idl
namespace Go.Idl
@[go_sem] def ir_setI{l i n}:(ir eI l).set i [.p (.sc (.int .i64 n))]=ir eI (l.set i n):=qlw (f:=eI) (a:=n)
@[go_sem] def ir_setB{l i n}:(ir eB l).set i [.p (.sc (.bool n))]=ir eB (l.set i n):=qlw (f:=eB) (a:=n)
def qbj(n:Nat):List (List IV)->Prop
 | []=>True
 | r::a=>bels n r/\qbj n a
theorem qcf(n): ∀rows:List (List IV),qbj n rows↔ ∀a∈rows,bels n a
 | []=>by simp[qbj]
 | r::b=>by simp[qbj,qcf n b]
@[go_sem] def qfe{n sz g rows}:blkBel n (.arr sz g rows)=qbj n rows:=propext (qcf n rows).symm
def qhW(n): ∀l:List PV,bels n (l.map .p)
 | []=>trivial
 | _::r=>⟨trivial,qhW n r⟩
@[go_sem] def qdZ{n b f}{l:List b}:qbj n (ir f l)=True:=
  eq_true ((qcf n _).2 λr h=>by simp[ir] at h;obtain⟨a,_,rfl⟩:=h;exact qhW n _)
@[go_sem] def qm9{n rs us}:qbj n (rs++us)=(qbj n rs/\qbj n us):=propext (by grind[qcf])
@[go_sem] def qs1{n}:qbj n []=True:=(rfl)
@[go_sem] def qsQ{n r rs}:qbj n (r::rs)=(bels n r/\qbj n rs):=(rfl)
attribute [go_sem] Nat.sub_zero Kt List.filter_nil bne_self_eq_false Int.add_zero Int.zero_add Int.sub_zero Kz forall_eq forall_eq_or_imp not_false_eq_true false_or or_false Value.int.injEq Value.bool.injEq Value.string.injEq Value.float.injEq IV.p.injEq PV.sc.injEq PV.imm.injEq IBlk.arr.injEq Int.toNat_natCast Int.natCast_nonneg Int.natCast_add Int.cast_ofNat_Int KV Option.map_none Option.bind_some Option.bind_none Option.isSome_none Option.isSome_some Kv Kw Ks List.take_length List.drop_length Kj List.length_take List.length_drop List.length_nil List.all_cons List.all_nil Kc Ki List.getElem?_nil KD List.drop_succ_cons List.drop_nil List.take_zero List.take_succ_cons List.take_nil List.set_cons_zero List.set_cons_succ List.head?_cons Kd Kh Km Kn List.reverse_nil List.flatten_cons List.flatten_nil List.replicate_zero List.drop_replicate Nat.sub_self List.replicate_succ List.range_zero Ku List.toList_toArray Nat.zero_add Nat.add_zero KQ Nat.mul_zero Nat.mul_one KR Nat.add_eq_right Nat.add_eq_left Nat.left_eq_add Nat.right_eq_add Nat.add_left_cancel_iff Nat.add_right_cancel_iff Value.oneCell' Bool.not_not Bool.and_true Bool.true_and Bool.not_true Bool.not_false K6 K9 Bool.false_and and_self and_true true_and true_or or_true ne_eq not_true_eq_false not_false_eq_true if_true if_false decide_true decide_false beq_self_eq_true KI Nat.le_add_right Nat.add_le_add_iff_left Nat.add_lt_add_iff_left Nat.lt_add_one KO Nat.min_self KP implies_true List.length_replicate qb9 qb9.goS List.not_mem_nil false_implies true_implies
def fbop(P:Program)(G:Nat->Option IBlk)(op:BinOp)(t:TypeId):Option IV->Option IV->Option FR
 | some z,V a=>orE (fbin P op t z a) (orE (qeg op z a) (orE (feqv P op t z a) (fslnil P G op t z a)))
 | _,_=>U
@[go_sem ↓] def fop_bin{P}{ρ}{G}{nx}{a}{dst}{op}{t t'}{x y}:
  fop P ρ G nx a dst (.binOp op t x y t')=fbop P G op t (ρ x) (ρ y):=wv
@[go_sem low] def fbop_some{P}{G}{op}{t}{zx z}:fbop P G op t (V zx) (V z)=orE (fbin P op t zx z) (orE (qeg op zx z) (orE (feqv P op t zx z) (fslnil P G op t zx z))):=(rfl)
variable{P:Program}
def PEff(P:Program)(f:FuncId)(args:List IV)(R:List (Nat × IBlk))(x:IV)(W:List (Nat × IBlk)):Prop:=
 ∀h:IH,(∀p∈R,look h.m p.1=V p.2)->qa5 P f args h λr n l=>r= .ret x/\n=h.nx/\l=W
def qbv(G:Nat->Option IBlk):List (Nat × IBlk)->Prop
 | []=>True
 | p::r=>G p.1=V p.2/\qbv G r
def qbp(n:Nat):List (Nat × IBlk)->Prop
 | []=>True
 | p::r=>p.1 < n/\blkBel n p.2/\qbp n r
def qbR(n:Nat)(W:List Nat):List Nat->Prop
 | []=>True
 | b::r=>(n<=b\/b∈W)/\qbR n W r
def qb5{n}: ∀ {W},qbp n W-> ∀p∈W,p.1 < n/\blkBel n p.2
 | [],_,p,a=>by grind
 | q::r,h,p,a=>by rcases List.mem_cons.1 a with rfl | a;exact⟨h.1,h.2.1⟩;exact qb5 h.2.2 p a
def allIn_mem{n W}: ∀ {l},qbR n W l-> ∀b∈l,n<=b\/b∈W
 | [],_,b,a=>by grind
 | c::r,h,b,a=>by rcases List.mem_cons.1 a with rfl | a;exact h.1;exact allIn_mem h.2 b a
section
variable{fn:Func}{h:IH}{x:IV}{W:List (Nat × IBlk)}{N:Nat}{s:List (Nat × IV)}{d:List IDef}{nx:Nat}{l:List (Nat × IBlk)}
@[go_sem] theorem qsV{G}:qbv G []=True:=(rfl)
@[go_sem] theorem qsN{G p r}:qbv G (p::r)=(G p.1=V p.2/\qbv G r):=(rfl)
@[go_sem] theorem allIn_nil{n w}:qbR n w []=True:=(rfl)
@[go_sem] theorem qs4{n b w l}:qbR n w (b::l)=((n<=b\/b∈w)/\qbR n w l):=(rfl)
end
def callE(P:Program)(c:FuncId)(zs:List IV)(G:Nat->Option IBlk)(K:IV->List (Nat × IBlk)->Prop):Prop:= ∃x R W,PEff P c zs R x W/\qbv G R/\K x W
def qmO{c zs z G K}(h:zs=z):callE P c zs G K=callE P c z G K:=wy
attribute [congr] qmO
section
variable{h0:IH}{Q:Exit->qab->Prop}{k:List It}{all:Array Oper}{r:List Oper}{dst:Option Tmp}{ty:TypeId}{pos:String}{aft:Array Edge}{N:Nat}{s:List (Nat × IV)}{d:List IDef}{nx:Nat}{l:List (Nat × IBlk)}
 {g:Option (Nat × Bool)} {f:Operand} {args:List Operand} {ts:List TypeId}
end
end Go.Idl
namespace Go.Idl
@[go_sem] def qs5:qf3 []=V []:=rfl
end Go.Idl
namespace Go.Idl
end Go.Idl
namespace Go.Idl
end Go.Idl
namespace Go.Idl
attribute [go_sem] fb2s
end Go.Idl
namespace Go.Idl
attribute [go_sem] feqv fslnil qga qh4 eqres scs cstv qgh qeO
@[go_sem] def leq_nil:leq [] [] []=V Y:=(rfl)
@[go_sem] def leq_int{c k a b xs ys}:leq (.int k::c) (.int k a::xs) (.int k b::ys)=(leq c xs ys).map λr=>(a==b) && r:=by simp[leq,sleq];cases leq c xs ys<;>rfl
end Go.Idl
namespace Go.Idl
@[go_sem] def fw_clo{G ids f a c}:fw G ids (.clo f a c) (.clo f a c)=True:=eq_true (qnl _)
variable{P:Program}{h0:IH}
def qdc{m t x ty g w i j r k N s d nx l Q sz rows}
  (G:look s x=V (.p (.imm sz rows))) (H:(tel P ty).isSome=Y) (I:t < N)
  (h: ∀b:Bool,(b=Y->rows= [])->IRun P h0 (.ops m r::k) ⟨N,(t,scb b)::s,d,nx,l⟩ Q):
  IRun P h0 (.ops m (⟨V t, .binOp .eql ty (.tmp x) (.const (.slice U 0 0)) g,w,i,j,U⟩::r)::k) ⟨N,s,d,nx,l⟩ Q:=by
 intro M0 z M a F n L q;obtain⟨v,O,R⟩:=n.slot x _ G;have A: ∃e c,v= .slice e rows.length c/\(e.isNone=Y->rows= []):=by
  cases R with
  | p _ _ A=>cases A<;>grind
 obtain⟨e,c,rfl,u⟩:=A;have C:a.eval (.tmp x)= .slice e rows.length c:=by
  simp_all[Act.eval,KW]
 obtain⟨T,X,o⟩:=qjT (P:=P) (op:= .eql) (t:=ty) (x:= .tmp x) (y:= .const (.slice U 0 0)) (a:=e) (l:=rows.length) (c:=c) (fr:= {x:=scb e.isNone}) H rfl M.w;have D:T=e.isNone:=by
  simp_all[scb]
 subst D;have E:(execOp a.eval ⟨V t, .binOp .eql ty (.tmp x) (.const (.slice U 0 0)) g,w,i,j,U⟩).run P M.w= .ok (.value (.bool e.isNone)) M.w:=by
  simp only[execOp,C];rw[show a.eval (.const (.slice U 0 0))= .slice U 0 0 from rfl,KS,X];rfl
 refine wpListW_step (q.mem (Kb ..)) λK f=>?_;unfold Oper.wp;rw[E];refine f _ _ (h e.isNone u M0 z M _ (F) ?_ L q.tl);exact n.step (.refl M) (dst:=V t) (by simp[qaC,I]) (.sc M (.bool e.isNone)) (nx:=nx) (W:= []) n.heap
end Go.Idl
