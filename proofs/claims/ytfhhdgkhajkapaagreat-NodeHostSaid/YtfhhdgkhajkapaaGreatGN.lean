/- Facts leant on. -/
import Derived.Test.YtfhhdgkhajkapaaGreatNMe
import Derived.Test.YtfhhdgkhajkapaaGreatNzFb
import Derived.Test.YtfhhdgkhajkapaaGreatIdGr
import Derived.Lib.Overlaps
set_option linter.all false
open List renaming take->Ka,drop->Kb,nil_append->Kc,cons_append->Kd,length_nil->Ke,reverse_nil->Kf,replicate->Kg,take_of_length_le->Kh,length_append->Ki,take_append_of_le_length->Kj,append_assoc->Kk,size_toArray->Kl,drop_eq_nil_of_le->Km,map_cons->Kn,mem_cons_self->Ko,map_nil->Kp,drop_append->Kq,take_take->Kr,length_cons->Ks,drop_length->Kt,getElem?_cons_zero->Ku,getElem?_map->Kv,length_take->Kw,length_replicate->Kx,mem_append->Ky,map_toArray->Kz,drop_zero->KA,length_drop->KB,append_nil->KC,pairwise_singleton->KD
open True renaming intro->KE
open Nat renaming add_zero->KF,reduceAdd->KG,le_refl->KH,mul_le_mul_right->KI,min->KJ,lt_irrefl->KK,add_mul->KL,zero_add->KM,le_of_lt->KN,add_sub_cancel_left->KO,lt_succ_of_lt->KP,min_eq_left->KQ
open Go.Builtin renaming zeroCells->KR,append_->KS
open Go.Sem renaming run_bind->KT,run_pure->KU
open Option renaming map_some->KV
open Go.Result renaming andThen_ok->KW
open Array renaming size_append->KX,getElem?_append->KY,length_toList->KZ,toList_append->K0,map->K1
open Option renaming none->U,some->V
open Bool renaming true->Y,false->Z
/- The document's answers of layer 11, and of configurations. -/
namespace Go.Proofs.NO
open Go Go.Idl Go.Proofs Go.GP Go.Proofs.Tryz
set_option maxHeartbeats 0
set_option maxRecDepth 100000
def qfV(l:List Int)(a:Int):Pure prog 126 [lI l,sci .i64 a] (sci .i64 (indexL a 0 l)):=by
 refine zAa func126 λhs=>?_;simp only[go_sem,simprocAttr,maxLen] at hs;refine zP ?_;refine qac 200 200 (λi:Nat=>i<=l.length/\indexL a i (l.drop i)=indexL a 0 l)
  (λi=>⟨19, [(0,lI l),(1,sci .i64 a),(5,sci .i64 i)], [],0, []⟩) (λi=>l.length - i) (0) [] ?_ ?_ ?_
 .simp
 .exact zc (zQ @Int.natCast_zero (zQ @Kh.{0} @Kk.{0}))
 .rintro i hi;obtain⟨hi,hinvi⟩:=hi;refine zV ?_;by_cases li:i < l.length
  .rw[qaU li,indexL] at hinvi;by_cases e:a=l[i]
   .rw[if_pos e] at hinvi;(try simp(disch:=omega) only[go_sem,simprocAttr,zD,zE,eI,<-e,<-hinvi])
   .rw[if_neg e] at hinvi;have e2:(l[i]==a)=Z:=beq_eq_false_iff_ne.2 λq=>e q.symm
    (try simp(disch:=omega) only[go_sem,simprocAttr,zD,zE,eI,e2]);refine⟨i+1, [],⟨wd,hinvi⟩,?_,?_⟩
    ·(try simp only[]);omega
    .exact zc @Kk.{0}
  .obtain rfl:i=l.length:=wa
   rw[Kt] at hinvi;(try simp(disch:=omega) only[go_sem,simprocAttr,zD,zE,<-hinvi,indexL])
def qkZ(l:List (Int × Int))(q:Int):Pure prog 28 [lII l,sci .i64 q] (sci .i64 (idxM q 0 l)):=by
 refine zAa func28 λhs=>?_;simp only[go_sem,simprocAttr,maxLen] at hs;refine zP ?_;refine qac 200 200 (λi:Nat=>i<=l.length/\idxM q i (l.drop i)=idxM q 0 l)
  (λi=>⟨20, [(0,lII l),(1,sci .i64 q),(5,sci .i64 i)], [],0, []⟩) (λi=>l.length - i) (0) [] ?_ ?_ ?_
 .simp
 .exact zc (zQ @Int.natCast_zero (zQ @Kh.{0} @Kk.{0}))
 .rintro i hi;obtain⟨hi,hinvi⟩:=hi;refine zV ?_;by_cases li:i < l.length
  .rw[qaU li,idxM] at hinvi;by_cases e:l[i].1=q
   .rw[if_pos e] at hinvi;have e2:(l[i].1==q)=Y:=beq_iff_eq.2 e;(try simp(disch:=omega) only[go_sem,simprocAttr,zD,zE,eII,e2,<-hinvi])
   .rw[if_neg e] at hinvi;have e2:(l[i].1==q)=Z:=beq_eq_false_iff_ne.2 e;(try simp(disch:=omega) only[go_sem,simprocAttr,zD,zE,eII,e2]);refine⟨i+1, [],⟨wd,hinvi⟩,?_,?_⟩
    ·(try simp only[]);omega
    .exact zc @Kk.{0}
  .obtain rfl:i=l.length:=wa
   rw[Kt] at hinvi;(try simp(disch:=omega) only[go_sem,simprocAttr,zD,zE,<-hinvi,idxM])
end Go.Proofs.NO
namespace Go.Idl
open Go
section
variable{P:Program}{fn:Func}{m:List (Nat × IBlk)}{c:Nat}{x:IV}{W:List (Nat × IBlk)}{N:Nat}{s:List (Nat × IV)}{nx:Nat}{l:List (Nat × IBlk)}
end
end Go.Idl
/- A configuration with lists of its own, all of them held. -/
namespace Go.Proofs.NO
open Go Go.Idl Go.Proofs Go.GP Go.Proofs.Tryz
set_option maxHeartbeats 0
set_option maxRecDepth 100000
structure Sp where
 kind:Int
 node:Int
 k:Int
 link:Int
 seq:Int
structure Cf where
 S:List Int
 L:List (List (Int × Int))
 E:List Int
end Go.Proofs.NO
namespace Go.Idl
variable{P:Program}{h0:IH}
def qqV{c k S Q}(h: ∀M0,HRel h0.nx h0.m M0-> ∀M a,qaf M0 M->SRel h0 S M a-> ∀ro,RoOk ro (ndC c)->c.wpIn (Wd ro) 0 P (qcR h0 M0 λe S'=>after P h0 Q k e S') a M.w):
  IRun P h0 (.code c::k) S Q:=h
def qqv{c k S Q}(h:IRun P h0 (.code c::k) S Q){M0}(b:HRel h0.nx h0.m M0){M a}(f:qaf M0 M)(g:SRel h0 S M a){ro}(d:RoOk ro (ndC c)):
  c.wpIn (Wd ro) 0 P (qcR h0 M0 λe S'=>after P h0 Q k e S') a M.w:=h M0 b M a f g ro d
def fop_nd{o ρ G nx a dst fr}(h:fop P ρ G nx a dst o.op=V fr):ndOp o=Y:=by
 unfold ndOp;cases b:o.op<;>first | rfl | (rw[b] at h;cases h)
def wp_fop{ro d o r S M a fr Q}(e:SRel h0 S M a)(l:qam d S.s o=V Y)
  (k:fop P (ev S.s) (look (S.l++h0.m)) S.nx d o.dst o.op=V fr) (m:qaC S o.dst=Y)
  (h: ∀v M',qaf M M'->SRel h0 (S.put o.dst fr.x (S.nx+fr.F.length) fr.W.reverse) M' (a.put o.dst v)->wpListIn (Wd ro) 0 P d Q r (a.put o.dst v) M'.w):wpListIn (Wd ro) 0 P d Q (o::r) a M.w:=by
 obtain⟨g,c⟩:=qet k;refine wpListW_step (.inr (fop_nd k)) λK n=>?_;rw[if_pos (qbd e l)];refine g M a e.heap.rel (λp q=>by rw[e.heap.G];exact c.reads p q) (λb f=>?_) (λy _ z t=>qaF e.slot t) K _ λv M' s i u w=>?_
 .rcases c.new with ⟨j,_⟩ | ⟨j,_⟩
  .grind
  .rw[j] at f;simp at f;subst f;exact λf=>KK _ (e.heap.A _ f)
 .refine n _ _ (h v M' s (e.step s m w ?_));have:=e.heap.upd i u (S.nx+fr.F.length) (qhC e.heap c)
  grind
def keep_β{M M'}(st:qaf M M'){b a}(d:M.H.A b)(h:M.H.G b=V a)(h':M'.H.G b=V a):M'.β b=M.β b:=by
 obtain⟨c,e,_,_,_,f⟩:=st.comp b a d h'
 grind
def wp_cap{ro:Option Nat}{d:Array Oper}{y:Operand}{T ty e:TypeId}{f:String}{i:Array Edge}{dst:Option Tmp}{r:List Oper}{S:qab}{M:Mem}{a:Act}{Q:Exit->Act->World->Prop}{b g off len sz:Nat}{c:List (List IV)}
  (k:SRel h0 S M a) (s:tel P T=V e) (t:ev S.s y=V (.ref b g off len)) (u:look (S.l++h0.m) b=V (.arr sz g c)) (v:qaC S dst=Y)
  (h: ∀(m:Option Addr) (cap:Nat),a.eval y= .slice m len cap->qdD (M.β b) sz c.length off len (.slice m len cap)->
   SRel h0 (S.put dst (sci .i64 cap) S.nx []) M (a.put dst (.int .i64 cap))->wpListIn (Wd ro) 0 P d Q r (a.put dst (.int .i64 cap)) M.w):
  wpListIn (Wd ro) 0 P d Q (⟨dst, .call {callee:= .builtin .cap,args:=#[y],argTypes:=#[T]},ty,f,i,U⟩::r) a M.w:=by
 refine wpListW_step (.inr rfl) λK w=>?_;rw[if_pos (qbd k (show qam d S.s ⟨dst,_,ty,f,i,U⟩=V Y from rfl))];have n:=qaF k.slot t;have x:M.H.G b=V (.arr sz g c):=by rw[k.heap.G];exact u
 have j:qdD (M.β b) sz c.length off len (a.eval y):=by
  generalize a.eval y=q at n;cases n with
  | ref _ _ _ _ _ z n h=>exact(h _ x).2 rfl
 obtain⟨m,cap,o,A⟩:=id j;rw[o] at j;have l:(execOp a.eval ⟨dst, .call {callee:= .builtin .cap,args:=#[y],argTypes:=#[T]},ty,f,i,U⟩).run P M.w= .ok (.value (.int .i64 cap)) M.w:=by
  simp[execOp,resolve,invoke,builtin,o,Builtin.cap_,run_underlying (und_tel s),goInt]
 unfold Oper.wp;rw[l];exact w _ _ (h m cap o j (k.step (.refl M) v (.p _ _ (.sc _)) k.heap))
def qse{M:Mem}(h:MRel M){b sz g:Nat}{q:List (List IV)}{c o n:Nat}(w:M.H.G b=V (.arr sz g q))(p:M.β b=V (c,o,n))(t x:Nat)(r:List (List IV))(B:g < t)
  (C: ∀M':Mem,qaf M M'->M'.w=M.w->M'.β b=V (c,o,x)->BRel M' b (.arr sz t r)):
  qaf M ⟨M.w,M.H.put b (.arr sz t r),putβ M.β b (V (c,o,x))⟩/\MRel ⟨M.w,M.H.put b (.arr sz t r),putβ M.β b (V (c,o,x))⟩:=by
 have u:M.own c:= .inr ⟨b,_,o,n,w,p⟩;have s:qaf M ⟨M.w,M.H.put b (.arr sz t r),putβ M.β b (V (c,o,x))⟩:=by
  refine⟨rfl,rfl,rfl,KH _,λy f z=>⟨rfl,?_⟩,λ_ h=> .inl h,λj i D a=>?_,rfl,λy f=>rfl⟩
  .rintro(A | ⟨j,k,l,m,a,d⟩)
   .exact z (.inl A)
   by_cases e:j=b
   .simp_all[putβ,if_true,Option.some.injEq,Prod.mk.injEq]
   .simp only[AH.put,putβ,e,if_false] at a d;exact z (.inr ⟨j,k,l,m,a,d⟩)
  .by_cases e:j=b
   .subst e;simp only[AH.put,if_true,Option.some.injEq] at a;subst a;exact⟨_,w,rfl,rfl,KN B,λe=>by simp only[IBlk.gen] at e;omega⟩
   simp_all[AH.put,if_false,putβ]
 refine⟨s,h.change s b (.inr rfl) ?_ ?_ ?_ ?_ ?_ ?_⟩
 .intro j e;simp[AH.put,e]
 .intro j e;simp[putβ,e]
 .intro j k y l m e a f;rfl
 .simp_all[AH.put,if_true,Option.some.injEq,putβ]
 .intro i y l m a f j k E F e v d;simp only[putβ,if_true,Option.some.injEq,Prod.mk.injEq] at f;obtain⟨rfl,rfl,rfl⟩:=f;exact e (h.inj j b k _ c E F o n v w d p)
 .intro i y l m _ f A;simp only[putβ,if_true,Option.some.injEq,Prod.mk.injEq] at f;obtain⟨rfl,rfl,rfl⟩:=f;exact h.odis b _ c o n w p A
def ql7{S M a}(d:SRel h0 S M a){b sz g t f c o n}(C:look (S.l++h0.m) b=V (.arr sz g f))(s:M.β b=V (c,o,n))(k m r)
  (D:g < k) (E: ∀M':Mem,qaf M M'->M'.w=M.w->M'.β b=V (c,o,m)->BRel M' b (.arr sz k r)) {v} (F:a.tmps[t]? =V v) {len} (p:qdD (V (c,o,m)) sz r.length 0 len v):
  ∃M',M'.w=M.w/\qaf M M'/\M'.β b=V (c,o,m)/\SRel h0 ⟨S.n,(t, .ref b k 0 len)::S.s,S.d,S.nx,(b, .arr sz k r)::S.l⟩ M' a:=by
 have B:M.H.G b=V (.arr sz g f):=by rw[d.heap.G];omega
 obtain⟨w,x⟩:=qse d.heap.rel B s k m r D E;refine⟨⟨M.w,M.H.put b (.arr sz k r),putβ M.β b (V (c,o,m))⟩,rfl,w,wr,⟨⟨x,λz l=>?_,λz=>?_⟩,d.size,λi y q=>?_,d.defs.step w⟩⟩
 .rcases l with l | rfl
  .exact d.heap.A _ l
  .exact d.heap.A _ (d.heap.rel.dom _ _ B)
 .simp[AH.put,Kd,look];by_cases e:z=b
  .simp_all
  .rw[if_neg e,if_neg (λh=>e h.symm)];exact d.heap.G z
 .simp[look] at q;split at q
  .rename_i e;subst e;cases q;obtain⟨G,A,H,_⟩:=id p;refine⟨v,F, .ref b k 0 len v (.inr rfl) ⟨G,A,H⟩ λI j=>?_⟩;simp[AH.put,if_true,Option.some.injEq] at j;subst j;exact⟨KH _,λ_=>by simp[putβ];exact p⟩
  .obtain⟨u,K,L⟩:=d.slot i y q;exact⟨u,K,L.step w⟩
def qpi{M M' b sz g l r c o n}(h:BRel M b (.arr sz g r))(e:M.β b=V (c,o,n))(st:qaf M M')(m:M'.w=M.w)(a:M'.β b=V (c,o,r.length)):BRel M' b (.arr sz l r):=by
 obtain⟨p,F,q⟩:=h;obtain⟨s,t,u,w,G,y,z⟩:=q c o n e;refine⟨p,λk=>wg,λH I K d=>?_⟩;rw[a] at d;cases d;refine⟨s,t,wg,KH _,wa,y.sub (KH _) (Nat.add_le_add_left (KI _ w) _),λi f j x A B=>?_⟩;obtain⟨v,C,D,E⟩:=z i f j x A B;exact⟨v,C,D,E.step st⟩
def qpj{M:Mem}{b sz g C:Nat}{r:List (List IV)}{c o n:Nat}(h:BRel M b (.arr sz g r))(w:M.β b=V (c,o,n))(u:r.length < n):
  ∃l:List Value,l.length=sz/\ ∀M':Mem,qaf M M'->M'.w=M.w->M'.β b=V (c,o,n)->BRel M' b (.arr sz C (r++ [l.map λv=> .p (.sc v)])):=by
 obtain⟨D,T,E⟩:=h;obtain⟨k,F,G,W,H,y,I⟩:=E c o n w;have K:(r.length+1) * sz<=n * sz:=KI _ u;rw[KL,Nat.one_mul] at K;have L:=y.1;refine⟨(List.range sz).map λj=>k[o+(r.length * sz+j)]!,wb,λM' N O a=>⟨λe m=>?_,λu=>(by rw[a] at u;cases u),λX o' n' q=>?_⟩⟩
 .rcases List.mem_append.1 m with h | h
  .exact D e h
  .rw[List.mem_singleton.1 h];simp
 .rw[a] at q;cases q;refine⟨k,F,by rw[O];exact G,wm,H,y,λi e j x f s=>?_⟩;rw[List.getElem?_append] at f;split at f
  .obtain⟨v,Q,R,S⟩:=I i e j x f s;exact⟨v,Q,R,S.step N⟩
  .have z:i - r.length=0:=by
    have:=qad f;simpa using this
   rw[z] at f;simp only[Ku,Option.some.injEq] at f;subst f;have A:j < sz:=by have:=qad s;simpa using this
   have B:i=r.length:=wa
   subst B;have t:o+(r.length * sz+j) < k.size:=wa
   rw[Kv,Kv,List.getElem?_range A] at s;simp only[KV,Option.some.injEq] at s;subst s;have d:k[o+(r.length * sz+j)]? =V k[o+(r.length * sz+j)]! :=by rw[getElem!_pos k _ t,Array.getElem?_eq_getElem t]
   exact⟨_,d,y.2 _ _ wa d, .p _ _ (.sc _)⟩
def qhf{u v ty e:TypeId}{sz by_:Nat}{zs olds:List Value}{i:TypeInfo}{z:Value}{A:IntKind}(B:P.underlying u=V (.slice e))(C:P.underlying v=V (.int A))
  (a:P.info? e=V i) (s:i.size=sz) (bytes:i.bytes=by_) (zero:i.zero=V z) (D:z.cells=⟨zs⟩) (H:zs.length=sz)
  {k:IntKind} {sLen sCap n:Nat} {base:Option Addr} {w:World} (j:(Builtin.firstCells sz sLen (.slice base sLen sCap)).run P w.drew= .ok ⟨olds⟩ w.drew)
  (h0:0 < n) (l:sCap < sLen+n) (f:sLen+n<=maxLen) (m:(sLen+n) * by_<=140737488355328):
  (KS #[u,v] ty #[.slice base sLen sCap, .int k (n:Int)]).run P w=
   .ok (.slice (V ⟨w.heap.size,0,U⟩) (sLen+n) (grownCap w (sLen+n) sCap e))
    (w.drew.alloc (.cells (⟨olds⟩++(if n * sz=0 then #[] else KR z.cells n)++KR z.cells (grownCap w (sLen+n) sCap e - (sLen+n))) e)):=by
 have E: ∀w,(sizeOf e).run P w= .ok sz w:=qaD (show tsz P e=V sz by simp[tsz,a,s]);have o: ¬(sLen+n<=sCap):=wa
 have x:=growslice_fits l m;have h: ¬(Builtin.nextslicecap (sLen+n) sCap * by_ > 2 ^ 48):=by simp only[Nat.reducePow];omega
 have p:IntKind.i64.max=9223372036854775807:=wh
 have F:IntKind.i64.wrap (n:Int)=n:=by
  unfold maxLen at f;rw[IntKind.wrap_i64];omega
 have q: ¬((n:Int) < 0):=wa
 have r: ¬((n:Int) * (by_:Int) > 2 ^ 48):=by
  have G:(n:Int) * (by_:Int)=((n * by_:Nat):Int):=wb
  have I:n * by_<=(sLen+n) * by_:=KI _ wa;rw[G];omega
 have b: ∀w,(typeInfo e).run P w= .ok i w:=λw=>by simp[typeInfo,a]
 have g: ∀w,(zeroValue e).run P w= .ok z w:=λw=>by simp[zeroValue,typeInfo,a,zero]
 have c: ∀w,(choose (.appendCap (sLen+n) sCap e)).run P w= .ok (grownCap w (sLen+n) sCap e) w.drew:=λw=>by simp[Question.forced,grownCap]
 have t: ∀w,(asInt (.int k (n:Int))).run P w= .ok (n:Int) w:=λw=>by simp[asInt,asIntOf]
 have d: ¬(((sLen+n:Nat):Int) > IntKind.i64.max/\(True\/by_=0)):=by
  rw[p];unfold maxLen at f;omega
 unfold KS;simp only[List.getElem?_toArray,Ku,List.getElem?_cons_succ,KT,run_underlying B,KW,run_underlying C,KU,E,if_true,t,F,q,if_false,b,bytes,r,Int.toNat_natCast,o,
  d,h,c,run_askRoom,j,Bool.not_true,Bool.false_eq_true]
 by_cases y:n * sz=0<;>simp_all[if_true,if_false,KU,KW,KT,bytes,run_askRoom,newRow,run_newObj,World.alloc_eq,World.size_drew]
def qoX{ro:Option Nat}{L:Array Oper}{y x:Operand}{t1 t2 ty e:TypeId}{N:String}{O:Array Edge}{dst:Option Tmp}{r:List Oper}{S:qab}{M:Mem}{a:Act}{Qx:Exit->Act->World->Prop}
  {b g c o i k sz by_:Nat} {d:List (List IV)} {zs:List Value} {ki kj:IntKind} (F:SRel h0 S M a) (hy:ev S.s y=V (.ref b g 0 i)) (hx:ev S.s x=V (sci kj (k:Int))) (hb:look (S.l++h0.m) b=V (.arr sz g d))
  (b1:M.β b=V (c,o,d.length)) (b2:tel P t1=V e) (b3:P.underlying t2=V (.int ki)) (Q:tsz P e=V sz) (a3:tby P e=V by_) (A:tze P e=V zs) (R:zs.length=sz) (a4:zs.all (·.oneCell')=Y)
  (hi:i<=d.length) (B:d.length < i+k) (hk:0 < k) (a5:(i+k) * by_<=140737488355328) (c8:i+k<=9223372036854775807) (hd:qaC S dst=Y)
  (h: ∀v M',qaf M M'->SRel h0 (S.put dst (.ref S.nx 0 0 (i+k)) (S.nx+1) [(S.nx, .arr sz 0 (d.take i++Kg k (zcs zs)))]) M' (a.put dst v)->wpListIn (Wd ro) 0 P L Qx r (a.put dst v) M'.w):
  wpListIn (Wd ro) 0 P L Qx (⟨dst, .call {callee:= .builtin .append,args:=#[y,x],argTypes:=#[t1,t2]},ty,N,O,U⟩::r) a M.w:=by
 refine wpListW_step (.inr rfl) λK hK=>?_;rw[if_pos (qbd F (show qam L S.s ⟨dst,_,ty,N,O,U⟩=V Y from rfl))];have hM:=F.heap.rel;have T:=qaF F.slot hy;have e2:=(qaF F.slot hx).sc_inv;have hG:M.H.G b=V (.arr sz g d):=by rw[F.heap.G];exact hb
 have hF: ¬M.H.A S.nx:=λh=>KK _ (F.heap.A _ h)
 have b4:qdD (M.β b) sz d.length 0 i (a.eval y):=by
  generalize a.eval y=q at T;cases T with
  | ref _ _ _ _ _ hA T h=>exact(h _ hG).2 rfl
 obtain⟨ad,l,e1,c1,c2,c3,c4⟩:=b4;have c7:l<=d.length:=by
  rcases c4 with h | ⟨c',o',n',h1,_,h3⟩
  .omega
  .rw[b1] at h1;cases h1;omega
 cases m:P.info? e with
 | none=>simp[tsz,m] at Q
 | some b5=>
   simp only[tsz,tby,tze,m,KV,Option.some.injEq,Option.bind_some] at Q a3 A;cases X:b5.zero with
   | none=>simp[X] at A
   | some z=>
     simp only[X,KV,Option.some.injEq] at A;have D:z.cells=⟨zs⟩:=by rw[<-A]
     have E:z.cells.size=sz:=by rw[D];simpa using R
     have s1:=qaf.drew M;have a6:=hM.drew;have b6:iapp M.H.G sz (.ref b g 0 i)=V (d.take i, [(b, .arr sz g d)]):=by
      simp[iapp,qcF,hG]
     have b7: ∀p∈ [(b,IBlk.arr sz g d)],M.H.G p.1=V p.2:=by simp[hG]
     obtain⟨s,hA⟩:=qbF (P:=P) b6 a6 b7 (T.step s1);have hl:(d.take i).length=i:=by rw[Kw];omega
     have G:=hA.get;rw[hl,e1] at G;have t:=hA.nl;rw[hl] at t;have a7:=qhf (P:=P) (ty:=ty) (und_tel b2) b3 m Q a3 X D R (k:=kj) (sLen:=i) (sCap:=l) (n:=k) (base:=ad) (w:=M.w) G hk wa wt a5;have a0:=grownCap_ge M.w (i+k) l e;have b8:=grownCap_le_maxLen M.w (i+k) l e wt;generalize grownCap M.w (i+k) l e=C at *;have a1:(KR z.cells (C - (i+k))).size=(C - (i+k)) * sz:=by rw[<-KZ,qbB,E]
     have H:(if k * sz=0 then #[] else KR z.cells k).size=k * sz:=by
      split
      .rename_i h0;rw[h0];rfl
      .rw[<-KZ,qbB,E]
     have a8: ∀u∈z.cells.toList,u.oneCell'=Y:=λu hu=>by
      rw[D] at hu;exact List.all_eq_true.1 a4 u hu
     have b9:=qcL (⟨M.w.drew,M.H,M.β⟩:Mem) a4;obtain⟨s2,r2⟩:=qdt a6 S.nx hF sz 0 C (d.take i++Kg k (zcs zs)) (⟨s⟩++(if k * sz=0 then #[] else KR z.cells k)++KR z.cells (C - (i+k))) e
      (by
       intro f a9;rcases List.mem_append.1 a9 with h | h
       .exact hA.wid f h
       .rw[List.eq_of_mem_replicate h];simpa[zcs] using R)
      (by rw[Ki,hl,Kx];exact a0) b8
      (qbn.all (by
       rw[KX,KX,H,a1,Kl,t,<-KL,<-KL];exact KI _ wa) (by
       intro v T;rw[K0,K0,Ky,Ky] at T;rcases T with (h | h) | h
       .exact hA.one v h
       .split at h
        .simp at h
        .exact zeroCells_one a8 v h
       .exact zeroCells_one a8 v h))
      (by
       have c0:=qfZ (M:= {M with w:=M.w.drew}) (rs:=d.take i) (rx:=Kg k (zcs zs)) (sz:=sz) (o':=0) (a:=⟨s⟩++(if k * sz=0 then #[] else KR z.cells k)++KR z.cells (C - (i+k)))
        (by
         intro i' f j y hi hj;obtain⟨u,u1,u2,u3⟩:=hA.rel i' f j y hi hj;refine⟨u,?_,u2,u3⟩;have B:=qad u1;rw[KM,KY,if_pos (by simp only[KX,Kl];omega),KY,if_pos vg];simpa using u1)
        (by
         intro i' f j y a2 hj;have b0:i' < k:=by have:=qad a2;simpa using this
         rw[List.getElem?_replicate,if_pos b0] at a2;cases a2;obtain⟨v,v1,v2,v3⟩:=b9.get hj;have c9:j < zs.length:=qad v1;refine⟨v,?_,v2,v3⟩;have B:i' * sz+j < k * sz:=qcd b0 wa;rw[hl,KM,KY,if_pos (by simp only[KX,Kl,H,t];omega),KY,if_neg (by simp only[Kl,t];omega),if_neg wa,Kl,t,
          KO,<-Array.getElem?_toList,qcT (by rw[E];exact B),E,Nat.mul_comm,Nat.mul_add_mod,Nat.mod_eq_of_lt wa,D]
         simpa using v1)
       intro i' f j y hi hj;have:=c0 i' f j y hi hj;simpa using this)
     have c5:(execOp a.eval ⟨dst, .call {callee:= .builtin .append,args:=#[y,x],argTypes:=#[t1,t2]},ty,N,O,U⟩).run P M.w= .ok (.value (.slice (V ⟨M.w.heap.size,0,U⟩) (i+k) C)) (M.w.drew.alloc (.cells (⟨s⟩++(if k * sz=0 then #[] else KR z.cells k)++KR z.cells (C - (i+k))) e)):=by
      simp only[execOp,resolve,invoke,builtin,KT,KU,KW,Kz,Kn,Kp,e1,e2,a7]
     unfold Oper.wp;rw[c5];have st:=s1.trans s2;refine hK _ _ (h _ _ st (F.step st hd (.ref S.nx 0 0 (i+k) _ (.inr rfl) ⟨_,_,rfl⟩ λc6 I=>?_) ?_))
     .simp only[AH.put,if_true,Option.some.injEq] at I;subst I;exact⟨KH _,λ_=>⟨_,C,rfl,a0,by simp[IBlk.len,hl],by simp[IBlk.len,hl];exact a0, .inr ⟨M.w.heap.size,0,C,wr,wb,wa⟩⟩⟩
     .have:=F.heap.upd r2 (W:= [(S.nx, .arr sz 0 (d.take i++Kg k (zcs zs)))]) rfl (S.nx+1) (λb hb=>by
       rcases hb with hb | ⟨c6,hb⟩
       .omega
       .simp only[List.mem_singleton,Prod.mk.injEq] at hb;omega)
      rw[Kk];exact this
def qmL(n:Nat){Q:Exit->qab->Prop}{k:List It}{t:Array Oper}{r:List Oper}{dst:Option Tmp}{ty:TypeId}{u:String}{v:Array Edge}{N:Nat}{s:List (Nat × IV)}{d:List IDef}{nx:Nat}{l:List (Nat × IBlk)}
  {f x y:Operand} {ts:Array TypeId} {F:FuncId} {fn:Func} {T T' e:TypeId} {A I o g B L m i sz O H:Nat} {b c:List (List IV)}
  (hf:ev s f=V (.p (.sc (.func (.func F) #[] #[])))) (R:P.funcs[F]? =V fn) (w:(fn.name== "runtime.NumGoroutine")=Z) (z:fn.body.isNone=Y) (S:Extern.findNext fn=U)
  (he:Extern.find fn=V (Extern.SlicesOverlaps.overlaps #[T,T] #[T'])) (ht:tel P T=V e) (X:tsz P e=V sz)
  (hx:ev s x=V (.ref A I o g)) (hy:ev s y=V (.ref B L m i)) (a0:A≠B) (c3:0 < g) (c4:0 < i) (b8:0 < sz)
  (a3:look (l++h0.m) A=V (.arr O I b)) (a4:look (l++h0.m) B=V (.arr H L c)) (a5:H=sz) (hd:dOk N dst=Y)
  (h:vc P h0 Q n (.ops t r::k) ⟨N,putS dst (scb Z) s,d,nx,l⟩):
  IRun P h0 (.ops t (⟨dst, .call {callee:= .value f,args:=#[x,y],argTypes:=ts},ty,u,v,U⟩::r)::k) ⟨N,s,d,nx,l⟩ Q:=by
 intro M0 a6 M a hs j ro C;refine wpListW_step (C.mem (Ko ..)) λK hK=>?_;rw[if_pos (qbd j (show qam t s ⟨dst,_,ty,u,v,U⟩=V Y from rfl))];have hM:=j.heap.rel;have ef:=(qaF j.slot hf).sc_inv;have vx:=qaF j.slot hx;have vy:=qaF j.slot hy;have G1:M.H.G A=V (.arr O I b):=by rw[j.heap.G];exact a3
 have G2:M.H.G B=V (.arr H L c):=by rw[j.heap.G];exact a4
 have a7:qdD (M.β A) O b.length o g (a.eval x):=by
  generalize a.eval x=q at vx;cases vx with
  | ref _ _ _ _ _ hA hv h=>exact(h _ G1).2 rfl
 have a8:qdD (M.β B) H c.length m i (a.eval y):=by
  generalize a.eval y=q at vy;cases vy with
  | ref _ _ _ _ _ hA hv h=>exact(h _ G2).2 rfl
 obtain⟨a1,b9,e1,p1,p2,p3,p4⟩:=a7;obtain⟨a2,c0,e2,q1,q2,q3,q4⟩:=a8;obtain⟨c1,o1,n1,B1,A1,C1⟩:=p4.resolve_left wa;obtain⟨c2,o2,n2,B2,A2,C2⟩:=q4.resolve_left wa;obtain⟨_,_,w1⟩:=hM.blk A _ G1;obtain⟨_,_,w2⟩:=hM.blk B _ G2;obtain⟨a9,b0,H1,_,_,R1,_⟩:=w1 c1 o1 n1 B1;obtain⟨D,b3,H2,_,_,R2,_⟩:=w2 c2 o2 n2 B2;have b4:c1≠c2:=λe=>a0 (hM.inj _ _ _ _ c1 o1 n1 o2 n2 G1 G2 B1 (e ▸B2))
 have b5:D.size≠0:=by
  have h1:=R2.1;have:1 * sz<=n2 * sz:=KI _ wa;rw[<-a5] at this;omega
 have E:(callFunc F #[a.eval x,a.eval y]).run P M.w= .ok (.value (.bool Z)) M.w:=by
  rw[run_callFunc_extern R w z S he,e1,e2,A1,A2,
   Lib.run_overlaps_apart M.w T T' e (und_tel ht) sz (qaD X) _ _ _ _ _ _ (by simpa using b4) b0 b3 a9.size D.size (by simp[World.shape?,H1]) (by simp[World.shape?,H2]) b5 (by simp[World.frozen?,H1]) (by simp[World.frozen?,H1])]
  rfl
 have b6:(execOp a.eval ⟨dst, .call {callee:= .value f,args:=#[x,y],argTypes:=ts},ty,u,v,U⟩).run P M.w= .ok (.value (.bool Z)) M.w:=by
  simp only[execOp,resolve,ef,Deferred.ofValue,KT,KU,KW,invoke];simp only[List.append_toArray,Kc,Array.append_empty,Kz,Kn,Kp,Array.empty_append];rw[E]
 unfold Oper.wp;rw[b6];have b7:qaC ⟨N,s,d,nx,l⟩ dst=Y:=wq
 have G:=j.step (.refl M) b7 (.p _ _ (.sc (.bool Z)):VRel M (scb Z) (.bool Z)) (W:= []) (nx:=nx) j.heap;rw[qa6] at G;exact hK _ _ (vc_sound Q n _ _ h M0 a6 M _ hs G ro C.tl)
def qqJ{S:qab}(b t R:Nat){sz g len:Nat}{r:List (List IV)}(hb:look (S.l++h0.m) b=V (.arr sz g r))(ht:look S.s t=V (.ref b g 0 len))(hg:g < R):
  Gho h0 S ⟨S.n,(t, .ref S.nx 0 0 len)::S.s,S.d,S.nx+1,(b, .arr sz R [])::(S.nx, .arr sz 0 r)::S.l⟩:=by
 intro M a C;have A:=C.heap.rel;have T: ¬M.H.A S.nx:=λh=>KK _ (C.heap.A _ h)
 have E:M.H.G b=V (.arr sz g r):=by rw[C.heap.G];exact hb
 have H:=A.dom _ _ E;have K:b≠S.nx:=λe=>T (e ▸H)
 have a1:M.H.G S.nx=U:=by
  cases h:M.H.G S.nx with
  | none=>rfl
  | some x=>exact absurd (A.dom _ _ h) T
 let I:Mem:=⟨M.w,(M.H.put S.nx (.arr sz 0 r)).put b (.arr sz R []),λk=>if k=b then U else if k=S.nx then M.β b else M.β k⟩;have G: ∀k,I.H.G k=if k=b then V (.arr sz R []) else if k=S.nx then V (.arr sz 0 r) else M.H.G k:=λk=>rfl
 have m: ∀k,I.β k=if k=b then U else if k=S.nx then M.β b else M.β k:=λk=>rfl
 have L: ∀c,I.own c->M.own c:=by
  rintro c (h | ⟨k,w,o,n,s,z⟩)
  .exact .inl h
  .rw[G] at s;rw[m] at z;by_cases e:k=b
   .rw[if_pos e] at z;cases z
   .rw[if_neg e] at s z;by_cases p:k=S.nx
    .rw[if_pos p] at s z;exact .inr ⟨b,_,o,n,E,z⟩
    .rw[if_neg p] at s z;exact .inr ⟨k,w,o,n,s,z⟩
 have N:qaf M I:=by
  refine⟨rfl,rfl,rfl,KH _,λc _ ho=>⟨rfl,λh=>ho (L c h)⟩,λk d=> .inl (.inl d),λk F d B=>?_,rfl,λ_ _=>rfl⟩;rw[G] at B;have p:k≠S.nx:=λe=>T (e ▸d)
  by_cases e:k=b
  .subst e;rw[if_pos rfl] at B;cases B;exact⟨_,E,rfl,rfl,KN hg,λe=>by simp only[IBlk.gen] at e;omega⟩
  .rw[if_neg e,if_neg p] at B;exact⟨F,B,rfl,rfl,KH _,λ_=>⟨by rw[m,if_neg e,if_neg p],rfl⟩⟩
 have W:MRel I:=by
  refine⟨λk w d=>?_,λk w d=>?_,λk X w F c o n o' n' s z l D=>?_,A.olt,λk w c o n s l=>?_⟩
  .rw[G] at d;by_cases e:k=b
   .subst e;exact .inl (.inl H)
   .rw[if_neg e] at d;by_cases p:k=S.nx
    .exact .inl (.inr p)
    .rw[if_neg p] at d;exact .inl (.inl (A.dom _ _ d))
  .rw[G] at d;by_cases e:k=b
   .subst e;rw[if_pos rfl] at d;cases d;exact⟨wb,λ_=>rfl,λc o n O=>by rw[m,if_pos rfl] at O;cases O⟩
   .rw[if_neg e] at d;by_cases p:k=S.nx
    .subst p;rw[if_pos rfl] at d;cases d;obtain⟨r1,r2,r3⟩:=A.blk b _ E;have Q:I.β S.nx=M.β b:=by rw[m,if_neg e,if_pos rfl]
     refine⟨r1,λhn=>r2 (by rw[<-Q];exact hn),λc o n O=>?_⟩;rw[Q] at O;obtain⟨cs,ty,q1,q2,q3,q4,q5⟩:=r3 c o n O;refine⟨cs,ty,q1,q2,q3,q4,λi a0 j x hi hj=>?_⟩;obtain⟨v,v1,v2,v3⟩:=q5 i a0 j x hi hj;exact⟨v,v1,v2,v3.step N⟩
    .rw[if_neg p] at d;exact BRel.step N (by rw[m,if_neg e,if_neg p]) (λc o n _=>rfl) (A.blk k w d)
  .rw[G] at s z;rw[m] at l D;by_cases e:k=b
   .rw[if_pos e] at l;cases l
   by_cases e':X=b
   .rw[if_pos e'] at D;cases D
   rw[if_neg e] at s l;rw[if_neg e'] at z D;by_cases f:k=S.nx
   .by_cases f':X=S.nx
    .rw[f,f']
    .rw[if_pos f] at l;rw[if_neg f'] at z D;exact absurd (A.inj _ _ _ _ c o n o' n' E z l D) (λq=>e' q.symm)
   .rw[if_neg f] at s l;by_cases f':X=S.nx
    .rw[if_pos f'] at D;exact absurd (A.inj _ _ _ _ c o n o' n' s E l D) e
    .rw[if_neg f'] at z D;exact A.inj _ _ _ _ c o n o' n' s z l D
  .rw[G] at s;rw[m] at l;by_cases e:k=b
   .rw[if_pos e] at l;cases l
   rw[if_neg e] at s l;by_cases f:k=S.nx
   .rw[if_pos f] at l;exact A.odis _ _ c o n E l
   .rw[if_neg f] at s l;exact A.odis _ _ c o n s l
 refine⟨I,rfl,N,⟨⟨W,λk d=>?_,λk=>?_⟩,C.size,λi y hy=>?_,C.defs.step N⟩⟩
 .rcases d with (d | d) | d
  .exact KP (C.heap.A _ d)
  .rw[d];exact Nat.lt_succ_self _
  .rw[d];exact KP (C.heap.A _ H)
 .rw[G];simp only[Kd,look];by_cases e:k=b
  .subst e;simp
  .have e': ¬b=k:=λh=>e h.symm
   simp only[if_neg e,if_neg e'];by_cases p:k=S.nx
   .simp only[if_pos p,if_pos p.symm]
   .have a4: ¬S.nx=k:=λh=>p h.symm
    simp only[if_neg p,if_neg a4];exact C.heap.G k
 .simp only[look] at hy;split at hy
  .rename_i e;subst e;cases hy;obtain⟨v,v1,v2⟩:=C.slot _ _ ht;have a3:qdD (M.β b) sz r.length 0 len v:=by
    cases v2 with
    | ref _ _ _ _ _ T hv h=>exact(h _ E).2 rfl
   obtain⟨ad,a5,e1,_⟩:=id a3;refine⟨v,v1, .ref S.nx 0 0 len v (.inl (.inr rfl)) ⟨ad,a5,e1⟩ λw a2=>?_⟩;rw[G,if_neg (λh=>K h.symm),if_pos rfl] at a2;cases a2;exact⟨KH _,λ_=>by rw[m,if_neg (λh=>K h.symm),if_pos rfl];exact a3⟩
  .obtain⟨u,u1,u2⟩:=C.slot i y hy;exact⟨u,u1,u2.step N⟩
def qsF{ro b y ty p c dst r S M a Q z}
  (d:SRel h0 S M a) (f:ev S.s y=V z) (g:qaC S dst=Y) (h:SRel h0 (S.put dst z S.nx []) M (a.put dst (a.eval y))->wpListIn (Wd ro) 0 P b Q r (a.put dst (a.eval y)) M.w):
  wpListIn (Wd ro) 0 P b Q (⟨dst, .move y,ty,p,c,U⟩::r) a M.w:=by
 refine wpListW_step (.inr rfl) λK i=>?_;exact i _ _ (h (d.step (.refl M) g (qaF d.slot f) d.heap))
def qc6{a:Act}{d t:Nat}{v}(h:t≠d):(a.put (V d) v).tmps[t]? =a.tmps[t]? :=by grind[Act.put]
def qrl{a:Act}{d v}(h:d < a.tmps.size):(a.put (V d) v).tmps[d]? =V v:=by simp_all[Act.put]
def qlg{a:Act}{t:Nat}{v}(h:a.tmps[t]? =V v):a.eval (.tmp t)=v:=by simp[Act.eval,h]
def qlA{S S' M M' a g}(e:SRel h0 S M a)(st:qaf M M')(d:SRel h0 S' M' g){b c}(h:look (S.l++h0.m) b=V c)(h':look (S'.l++h0.m) b=V c):M'.β b=M.β b:=by
 have f:M.H.G b=V c:=by rw[e.heap.G];omega
 exact keep_β st (e.heap.rel.dom _ _ f) f (by rw[d.heap.G];omega)
def qoc(n:Nat){Q:Exit->qab->Prop}{k:List It}{o:Array Oper}{r:List Oper}{dst:Option Tmp}{ty T e:TypeId}{p:String}{t:Array Edge}{N:Nat}{s:List (Nat × IV)}{d:List IDef}{nx:Nat}{l:List (Nat × IBlk)}
  {x y:Operand} {X:IntKind} {b g off len h sz:Nat} {j:List (List IV)} (c:tel P T=V e) (C:tsz P e=V sz) (S:ev s x=V (.ref b g off len)) (hy:ev s y=V (sci X (h:Int)))
  (hb:look (l++h0.m) b=V (.arr sz g j)) (a0:off+h<=j.length) (hd:dOk N dst=Y)
  (hk:vc P h0 Q n (.ops o r::k) ⟨N,putS dst (.ref b g off h) s,d,nx,l⟩):
  IRun P h0 (.ops o (⟨dst, .slice T x U (V y) U,ty,p,t,U⟩::r)::k) ⟨N,s,d,nx,l⟩ Q:=by
 intro M0 D M a hs u ro w;refine wpListW_step (w.mem (Ko ..)) λK hK=>?_;rw[if_pos (qbd u (show qam o s ⟨dst,_,ty,p,t,U⟩=V Y from rfl))];have hM:=u.heap.rel;have E:=qaF u.slot S;have F:=qaF u.slot hy;have G:M.H.G b=V (.arr sz g j):=by rw[u.heap.G];exact hb
 have H:qdD (M.β b) sz j.length off len (a.eval x):=by
  generalize a.eval x=q at E;cases E with
  | ref _ _ _ _ _ hA E h=>exact(h _ G).2 rfl
 obtain⟨z,f,e1,c1,c2,c3,c4⟩:=H;have I: ∀code,(Instr.sliceBound (a.eval y) f code).run P M.w= .ok h M.w:=λcode=>
  (qbk (P:=P) (M:=M) (i:=sci X (h:Int)) (y:=j.length - off) (d:=0) (k:=h) (code:=code) (by grind[sbd,sci]) F f wa M.w).1
 have A:(Instr.sliceBounds Y len f U (V (a.eval y)) U).run P M.w= .ok (0,h,f) M.w:=by
  unfold Instr.sliceBounds;simp[I]
 have v:=qbz (P:=P) c C (a:=z) A;have L:(execOp a.eval ⟨dst, .slice T x U (V y) U,ty,p,t,U⟩).run P M.w= .ok (.value (.slice (if f=0 then z else z.map (·.add (0 * sz))) (h - 0) (f - 0))) M.w:=by
  simp_all[execOp,KV,Option.map_none,KT]
 unfold Oper.wp;rw[L];have O:qaC ⟨N,s,d,nx,l⟩ dst=Y:=wq
 have R:VRel M (.ref b g off h) (.slice (if f=0 then z else z.map (·.add (0 * sz))) (h - 0) (f - 0)):=by
  refine .ref b g off h _ (hM.dom _ _ G) ⟨_,_,rfl⟩ λa1 m=>?_;rw[G] at m;cases m;refine⟨KH _,λ_=>⟨_,_,rfl,wa,wM,wM,?_⟩⟩
  grind[qbo,IBlk.sz]
 have B:=u.step (.refl M) O R (W:= []) (nx:=nx) u.heap;rw[qa6] at B;exact hK _ _ (vc_sound Q n _ _ hk M0 D M _ hs B ro w.tl)
end Go.Idl
namespace Go.Idl
variable{P:Program}{h0:IH}
def qsd{o:Oper}{ρ:Operand->Option IV}{nx:Nat}{t:TypeId}{len:Nat}{parts:List (Nat × Operand)}{zs:List (Nat × IV)}{sz:Nat}{cs:List IV}(k:o.op= .buildSlice t len ⟨parts⟩)(l:rparts ρ parts=V zs)
  (m:flit P t len zs=V (sz,cs)):qbl P o ρ [] [nx] (.ref nx 0 0 len) [(nx, .arr sz 0 (qa7 sz len cs))]:=by
 obtain⟨b,d,e,c⟩:=run_lit m;have:({x:= .ref nx 0 0 len,F:= [nx],W:= [(nx, .arr sz 0 (qa7 sz len cs))]}:FR).ok P o ρ:=by
  refine .does λM a n _ q v=>?_;obtain⟨w,y⟩:=qdf (M:=M) (a:=a) l λp z=>v p.2 (by
   grind[Op.operands])
  obtain⟨A,g,B⟩:=c M (parts.map λp=>(p.1,a.eval p.2)) w y;have f:=g.len;obtain⟨s,r⟩:=qdt n nx (q nx wb) sz 0 len (qa7 sz len cs) ⟨A⟩ e (qf6 b) (by simp[qa7]) d (qbn.all (by simp[f,b]) (by simpa using g.one)) (by
   intro i C j x D E;obtain⟨_,_,G⟩:=qf5 D E;obtain⟨u,H,I,K⟩:=g.get G
   grind)
  refine⟨.slice (V ⟨M.w.heap.size,0,U⟩) len len,_,?_,s,r,rfl,?_⟩
  .simp only[execOp,k,KT];have e:(K1 (λx=>(x.1,a.eval x.2)) ⟨parts⟩:Array (Nat × Value))=⟨parts.map λp=>(p.1,a.eval p.2)⟩:=wb
   rw[show(K1 (λx:Nat × Operand=>match x with | (i,x)=>(i,a.eval x)) ⟨parts⟩:Array (Nat × Value))=⟨parts.map λp=>(p.1,a.eval p.2)⟩ from e,B];rfl
  .refine .ref nx 0 0 len _ (.inr rfl) ⟨_,_,rfl⟩ λL h=>?_;simp only[AH.put,if_true,Option.some.injEq] at h;subst h;refine⟨KH _,λ_=>⟨_,_,rfl,wa,vi,vi, .inr ⟨M.w.heap.size,0,len,wr,wb,wa⟩⟩⟩
 exact this
def qqx{a dst t ty len parts p b g zs sz cs r S c K}
  (d:qam a S.s ⟨dst, .buildSlice t len ⟨parts⟩,ty,p,b,g⟩=V Y) (e:rparts (ev S.s) parts=V zs) (i:flit P t len zs=V (sz,cs)) (j:dOk S.n dst=Y)
  (h:DRun P h0 a r ⟨S.n,putS dst (.ref S.nx 0 0 len) S.s,S.d,S.nx+1,(S.nx, .arr sz 0 (qa7 sz len cs))::S.l⟩ (c++ [([], [S.nx])]) K):
  DRun P h0 a (⟨dst, .buildSlice t len ⟨parts⟩,ty,p,b,g⟩::r) S c K:=by
 obtain⟨f,k,l,m⟩:=h;refine⟨{x:= .ref S.nx 0 0 len,F:= [S.nx],W:= [(S.nx, .arr sz 0 (qa7 sz len cs))]}::f,k, .op d (qbl.loc (qsd rfl e i)) ?_ j wg,by simpa[FR.fp] using m⟩;exact FR.fits.G ⟨wb, .inr ⟨rfl,_,rfl⟩⟩
def qif{o id n k S Q}(u)(b:P.follows .mixedOrders=Y)(a:stat o u=Y)
  (h:DRun P h0 o.toArray o S [] (λS' f=>chk u f/\vc P h0 Q n k S')):IRun P h0 (.code (.region id o.toArray Y)::k) S Q:=by
 obtain⟨c,S',d,e,g⟩:=h;exact qfw b a d wg (vc_sound Q n k S' g)
def qaH.app{a l d S e f g j}(k:qaH P h0 a l S g e)(h:qaH P h0 a d e j f):qaH P h0 a (l++d) S (g++j) f:=by
 induction k with
 | nil S=>grind
 | op b m n c _ i=>exact .op b m n c (i h)
 | skip b c _ i=>exact .skip b c (i h)
def qfl(k){b l S a K}(h:dvc P h0 b (λS a=>DRun P h0 b (l.drop k) S a K) (l.take k) S a):DRun P h0 b l S a K:=by
 obtain⟨f,j,c,d,e,g,i⟩:=dvc_sound _ _ _ h;refine⟨f++d,e,by simpa using c.app g,wg⟩
end Go.Idl
namespace Go.Idl
variable{P:Program}{h0:IH}{G:Nat->Option IBlk}
end Go.Idl
/- A message taken out of a list, in place. -/
namespace Go.Proofs.NO
open Go Go.Idl Go.Proofs Go.GP Go.Proofs.Tryz
set_option maxHeartbeats 0
set_option maxRecDepth 100000
end Go.Proofs.NO
/- A message laid into a list: slices.Insert. -/
namespace Go.Proofs.NO
open Go Go.Idl Go.Proofs Go.Proofs.Tryz
set_option maxHeartbeats 0
set_option maxRecDepth 100000
def pvs_p: ∀ps:List PV,pvs (ps.map .p)=V ps
 | []=>rfl
 | p::ps=>by simp[pvs,pvs_p ps]
def pvs2_ir(l:List (Int × Int)):Option.map (λps=>IV.p (PV.imm 2 ps)) (pvs2 (ir eII l))=V (.p (.imm 2 (pr eII l))):=by
 have:pvs2 (ir eII l)=V (pr eII l):=by
  induction l with
  | nil=>rfl
  | cons a l ih=>
    simp only[ir,pr,Kn,pvs2,pvs_p] at ih ⊢;rw[ih]
 rw[this];rfl
def qqT(l:List (Int × Int))(m:Int × Int)(i:Nat)(hi:i < l.length){z:List IV}:
  Ka (l.length+1) (Ka ((i:Int)+1).toNat (Ka i (ir eII (Ka i l)++z::Kg (l.length - i) z)++ir eII [m]++Kb (i+1) (ir eII (Ka i l)++z::Kg (l.length - i) z))++
   ir eII (Ka ((l.length - i).min (l.length+1 - ((i:Int)+1).toNat)) (Ka (l.length - i) (Kb i l)))++
   Kb (((i:Int)+1).toNat+(l.length - i).min (l.length+1 - ((i:Int)+1).toNat)) (Ka i (ir eII (Ka i l)++z::Kg (l.length - i) z)++ir eII [m]++Kb (i+1) (ir eII (Ka i l)++z::Kg (l.length - i) z)))
  =ir eII (l.take i++m::l.drop i):=by
 have hA:(ir eII (l.take i)).length=i:=wH
 have ti:((i:Int)+1).toNat=i+1:=rfl;have hX:Ka i (ir eII (Ka i l)++z::Kg (l.length - i) z)++ir eII [m]++Kb (i+1) (ir eII (Ka i l)++z::Kg (l.length - i) z)
   =ir eII (l.take i)++ir eII [m]++Kg (l.length - i) z:=by
  rw[Kj wa,Kh wa,Kq,hA,Km wa,Kc,show i+1 - i=1 by omega,List.drop_succ_cons,KA]
 have hm:(l.length - i).min (l.length+1 - (i+1))=l.length - i:=by
  have:min (l.length - i) (l.length+1 - (i+1))=l.length - i:=wa
  exact this
 have hAm:(ir eII (l.take i)++ir eII [m]).length=i+1:=by rw[Ki,hA];rfl
 have hD:Ka (l.length - i) (Ka (l.length - i) (Kb i l))=l.drop i:=by
  rw[Kr,Nat.min_self,Kh (by rw[KB];exact KH _)]
 have h1:Ka (i+1) (ir eII (l.take i)++ir eII [m]++Kg (l.length - i) z)=ir eII (l.take i)++ir eII [m]:=by
  rw[Kj wa,Kh wa]
 have h2:Kb (i+1+(l.length - i)) (ir eII (l.take i)++ir eII [m]++Kg (l.length - i) z)= []:=
  Km (by rw[Ki,hAm,Kx];exact KH _)
 rw[ti,hX,hm,hD,h1,h2,KC,Kh (by rw[Ki,hAm];simp[ir];omega)];simp[ir]
def qqS(l:List (Int × Int))(m:Int × Int)(i:Nat)(hi:i < l.length){w:List IV}:
  Ka (l.length+1) (Ka i (Ka ((i:Int)+1).toNat (ir eII l++ [w])++Ka ((l.length+1 - i).min (l.length+1 - ((i:Int)+1).toNat)) (Ka (l.length+1 - i) (Kb i (ir eII l++ [w])))++
   Kb (((i:Int)+1).toNat+(l.length+1 - i).min (l.length+1 - ((i:Int)+1).toNat)) (ir eII l++ [w]))++ir eII (Ka (KJ 1 (l.length+1 - i)) [m])++
   Kb (i+KJ 1 (l.length+1 - i)) (Ka ((i:Int)+1).toNat (ir eII l++ [w])++Ka ((l.length+1 - i).min (l.length+1 - ((i:Int)+1).toNat)) (Ka (l.length+1 - i) (Kb i (ir eII l++ [w])))++
   Kb (((i:Int)+1).toNat+(l.length+1 - i).min (l.length+1 - ((i:Int)+1).toNat)) (ir eII l++ [w])))=ir eII (l.take i++m::l.drop i):=by
 have ti:((i:Int)+1).toNat=i+1:=rfl;have hm:(l.length+1 - i).min (l.length+1 - (i+1))=l.length - i:=by
  have:min (l.length+1 - i) (l.length+1 - (i+1))=l.length - i:=wa
  exact this
 have h1:KJ 1 (l.length+1 - i)=1:=by
  have:min 1 (l.length+1 - i)=1:=wa
  exact this
 have hR:(ir eII l).length=l.length:=wA
 have hd:Kb i (ir eII l++ [w])=Kb i (ir eII l)++ [w]:=List.drop_append_of_le_length wa;have hdl:(Kb i (ir eII l)).length=l.length - i:=by rw[KB,hR]
 have hY2:Ka (l.length - i) (Ka (l.length+1 - i) (Kb i (ir eII l)++ [w]))=Kb i (ir eII l):=by
  rw[Kr,KQ wa,Kj wa,Kh wa]
 have hY3:Kb (i+1+(l.length - i)) (ir eII l++ [w])= []:=Km (by rw[Ki,hR];simp;omega);have hY1:(Ka (i+1) (ir eII l++ [w])).length=i+1:=by rw[Kw,Ki,hR];simp;omega
 have hT:Ka i (Ka (i+1) (ir eII l++ [w])++Kb i (ir eII l))=Ka i (ir eII l):=by
  rw[Kj wa,Kr,KQ wa,Kj wa]
 have hD:Kb (i+1) (Ka (i+1) (ir eII l++ [w])++Kb i (ir eII l))=Kb i (ir eII l):=by
  rw[Kq,hY1,Km wa,Nat.sub_self,KA,Kc]
 rw[ti,hm,h1,hd,hY2,hY3,KC,hT,hD,Kh wH];simp[ir,List.map_take,List.map_drop]
def qmo(l:List (Int × Int))(m:Int × Int)(i:Nat)(hi:i<=l.length)(hn:l.length<=1000000):
  PG prog 101 [.ref 0 0 0 l.length,sci .i64 i, .ref 1 0 0 1] [.arr 2 0 (ir eII l), .arr 2 0 (ir eII [m])] 0 (lII (l.take i++m::l.drop i)) [(0, .arr 2 10 [])]:=by
 refine pg_of 0 (fn:=f101) func101 rfl (by simp[ntmps101]) 2 rfl (by((try refine zW ?_);(try with_reducible exact KE))) (by((try refine zW ?_);(try with_reducible exact KE))) (by((try refine zW ?_);(try with_reducible exact KE))) (by(try simp only[go_sem,simprocAttr,hasAll])) (by((try refine zW ?_);(try with_reducible exact KE))) λhs=>?_;rw[qe5];refine qhH trivial (qqJ 0 0 10 (sz:=2) (g:=0) (len:=l.length) (r:=ir eII l) rfl rfl wh) ?_;by_cases h:i=l.length
 .subst h;refine vc_sound _ 200 _ _ ?_;exact zU
 .refine vc_sound _ 40 _ _ ?_;refine zP ?_;rw[qe5];have hlt:i < l.length:=wa
  have hrl:(ir eII l).length=l.length:=wA
  refine qqV λM0 hM0 M a hst hr ro hro=>?_;refine wpIn_seq (wpIn_region_list ?_);refine wp_fop hr rfl (by((try refine zO ?_);(try with_reducible exact KE));rfl) rfl λv1 M1 st1 hr1=>?_;simp only[qa6,putS,Ke,KF,Kf,Kc,Kd,KG] at hr1;refine wp_fop hr1 rfl (by((try refine zO ?_);(try with_reducible exact KE));rfl) rfl λv2 M2 st2 hr2=>?_;simp only[qa6,putS,Ke,KF,Kf,Kc,Kd,KG] at hr2;refine wp_fop hr2 rfl (by((try refine zO ?_);(try with_reducible exact KE));rfl) rfl λv3 M3 st3 hr3=>?_;simp only[qa6,putS,Ke,KF,Kf,Kc,Kd,KG] at hr3;obtain⟨v0,hv0, -⟩:=hr3.slot 0 (.ref 2 0 0 l.length) (by((try refine zW ?_);(try with_reducible exact KE)));have hsz3:=hr3.size;have hev:=qlg hv0;refine qsF hr3 (z:= .ref 2 0 0 l.length) (by((try refine zW ?_);(try with_reducible exact KE))) rfl λhr4=>?_;have h29: ∀v,(Act.put (Act.put (Act.put (Act.put a (V 26) v1) (V 27) v2) (V 28) v3) (V 29) v).eval (.tmp 29)=v:=λv=>qlg (qrl (by have:=hsz3;simp only at this;omega))
  simp only[qa6,putS,Ke,KF,Kf,Kc,Kd,KG] at hr4;refine wp_cap hr4 (e:=67) (b:=2) (g:=0) (off:=0) (len:=l.length) (sz:=2) (c:=ir eII l) we (by((try refine zW ?_);(try with_reducible exact KE))) (by((try refine zW ?_);(try with_reducible exact KE))) rfl λad cap e1 hok hr5=>?_;rw[hrl] at hok;have e0:v0= .slice ad l.length cap:=by
   have e2:=e1;rw[h29] at e2;exact hev.symm.trans e2
  simp only[qa6,putS,Ke,KF,Kf,Kc,Kd,KG] at hr5;subst e0;obtain⟨_,cap',ec,c1,c2,c3,c4⟩:=id hok;cases ec;obtain⟨c,o,n,B,A,C⟩:=c4.resolve_left wa;simp only[Nat.zero_mul,KF,KM] at A C c3;have h5:M3.H.G 2=V (.arr 2 0 (ir eII l)):=by rw[hr5.heap.G];rfl
  rcases Nat.lt_or_ge cap (l.length+1) with hc | hc
  .have hcl:cap=l.length:=wa
   subst hcl;have hgt:(l.length:Int) < (l.length:Int)+1:=wa
   refine wp_fop hr5 rfl (by(try simp(disch:=omega) only[go_sem,simprocAttr,zD,zE,hgt]);rfl) rfl λv6 M6 st6 hr6=>?_;simp only[qa6,putS,Ke,KF,Kf,Kc,Kd,KG] at hr6;refine wpListIn_nil ?_;show(Code.cond _ _ _).wpIn _ _ _ _ _ _;refine wpIn_cond_true (qaF hr6.slot (show ev _ (.tmp 31)=V (scb Y) by((try refine zW ?_);(try with_reducible exact KE)))).sc_inv ?_;have hβ6:M6.β 2=V (c,o,n):=(qlA hr5 st6 hr6 (b:=2) (c:= .arr 2 0 (ir eII l)) rfl rfl).trans B;obtain⟨v6',hv6', -⟩:=hr6.slot 0 (.ref 2 0 0 l.length) (by((try refine zW ?_);(try with_reducible exact KE)));have e6:v6'= .slice ad l.length l.length:=by
    have h:=hv6';rw[qc6 wh,qc6 wh,qc6 wh] at h;exact Option.some.inj (h.symm.trans hv0)
   subst e6;have hB6:=hr6.heap.rel.blk 2 (.arr 2 0 (ir eII l)) (by rw[hr6.heap.G];rfl);obtain⟨M7,hw7,st7,hβ7,hr7⟩:=ql7 hr6 (b:=2) (sz:=2) (g:=0) (t:=0) (f:=ir eII l) rfl hβ6 1 (ir eII l).length (ir eII l) wh (λM' st hw hb=>qpi hB6 hβ6 st hw hb) hv6' (len:=l.length)
    ⟨ad,l.length,rfl,KH _,wa,wa, .inr ⟨c,o,_,rfl,by rw[A];simp,wa⟩⟩
   have hk:(l.length:Int)+1 - (i:Int)=((l.length+1 - i:Nat):Int):=wa
   rw[<-hw7];refine wpIn_seq (wpIn_region_list ?_);refine wp_fop hr7 rfl (by(try simp(disch:=omega) only[go_sem,simprocAttr,zD,zE,hk]);rfl) rfl λu1 N1 t1 k1=>?_;simp only[qa6,putS,Ke,KF,Kf,Kc,Kd,KG] at k1;refine wp_fop k1 rfl (by(try simp(disch:=omega) only[go_sem,simprocAttr,zD,zE,hk]);rfl) rfl λu2 N2 t2 k2=>?_;simp only[qa6,putS,Ke,KF,Kf,Kc,Kd,KG] at k2;refine wp_fop k2 rfl (by(try simp(disch:=omega) only[go_sem,simprocAttr,zD,zE,hk]);rfl) rfl λu3 N3 t3 k3=>?_;simp only[qa6,putS,Ke,KF,Kf,Kc,Kd,KG] at k3;refine wp_fop k3 rfl (by(try simp(disch:=omega) only[go_sem,simprocAttr,zD,zE,hk]);rfl) rfl λu4 N4 t4 k4=>?_;simp only[qa6,putS,Ke,KF,Kf,Kc,Kd,KG] at k4;refine wp_fop k4 rfl (by(try simp(disch:=omega) only[go_sem,simprocAttr,zD,zE,hk]);rfl) rfl λu5 N5 t5 k5=>?_;simp only[qa6,putS,Ke,KF,Kf,Kc,Kd,KG] at k5;refine wp_fop k5 rfl (by(try simp(disch:=omega) only[go_sem,simprocAttr,zD,zE,hk]);rfl) rfl λu6 N6 t6 k6=>?_;simp only[qa6,putS,Ke,KF,Kf,Kc,Kd,KG] at k6;refine wp_fop k6 rfl (by(try simp(disch:=omega) only[go_sem,simprocAttr,zD,zE,hk]);rfl) rfl λu7 N7 t7 k7=>?_;simp only[qa6,putS,Ke,KF,Kf,Kc,Kd,KG] at k7;refine wp_fop k7 rfl (by(try simp(disch:=omega) only[go_sem,simprocAttr,zD,zE,hk]);rfl) rfl λu8 N8 t8 k8=>?_;simp only[qa6,putS,Ke,KF,Kf,Kc,Kd,KG] at k8;have hβ8:N8.β 2=V (c,o,(ir eII l).length):=(qlA hr7 (t1.trans (t2.trans (t3.trans (t4.trans (t5.trans (t6.trans (t7.trans t8))))))) k8 (b:=2) (c:= .arr 2 1 (ir eII l)) rfl rfl).trans hβ7;refine qoX k8 (b:=2) (g:=1) (i:=i) (k:=l.length+1 - i) (sz:=2) (by_:=16) (zs:= [.int .i64 0, .int .i64 0]) (d:=ir eII l) (e:=67) (ki:= .i64) (kj:= .i64) (by((try refine zW ?_);(try with_reducible exact KE))) (by((try refine zW ?_);(try with_reducible exact KE))) (by((try refine zW ?_);(try with_reducible exact KE))) hβ8 we we we we we rfl rfl
    wa wa wa wa wa rfl λu9 N9 t9 k9=>?_
   simp only[qa6,putS,Ke,KF,Kf,Kc,Kd,KG] at k9;refine wp_fop k9 rfl (by((try refine zO ?_);(try with_reducible exact KE));rfl) rfl λu10 N10 t10 k10=>?_;simp only[qa6,putS,Ke,KF,Kf,Kc,Kd,KG] at k10;refine wpListIn_nil ?_;refine qqv ?_ hM0 (hst.trans (st1.trans (st2.trans (st3.trans (st6.trans (st7.trans (t1.trans (t2.trans (t3.trans (t4.trans (t5.trans (t6.trans (t7.trans (t8.trans (t9.trans t10))))))))))))))) k10 hro.r;refine vc_sound _ 200 _ _ ?_;have hA:(ir eII (l.take i)).length=i:=wH
   have fa:i+(l.length+1 - i)=l.length+1:=wa
   have fb:l.length+1 - i=(l.length - i)+1:=wa
   have fm:KJ 1 ((l.length - i)+1)=1:=by have:min 1 (l.length - i+1)=1:=by omega
                                         exact this
   have ft:Ka 1 [m]= [m]:=rfl;have fi:i+(l.length - i+1)=l.length+1:=wa
   have hX:Ka i (ir eII (Ka i l)++Kg (l.length - i+1) [sci .i64 0,sci .i64 0])++ir eII [m]++Kb (i+1) (ir eII (Ka i l)++Kg (l.length - i+1) [sci .i64 0,sci .i64 0])
     =ir eII (l.take i)++ir eII [m]++Kg (l.length - i) [sci .i64 0,sci .i64 0]:=by
    rw[Kj wa,Kh wa,Kq,hA,Km wa,Kc,show i+1 - i=1 by omega,List.drop_replicate,Nat.add_sub_cancel]
   refine zS (zQ fb (zQ fm (zQ ft (zQ fi (zQ hX @KO))))) ?_;refine zN [0,1,7,9] [U,U,U,U,U,U,U,U,V []] ?_;rw[qqT l m i hlt];exact pvs2_ir _
  .have hgt: ¬(cap:Int) < (l.length:Int)+1:=wa
   refine wp_fop hr5 rfl (by(try simp(disch:=omega) only[go_sem,simprocAttr,zD,zE,hgt]);rfl) rfl λv6 M6 st6 hr6=>?_;simp only[qa6,putS,Ke,KF,Kf,Kc,Kd,KG] at hr6;refine wpListIn_nil ?_;show(Code.cond _ _ _).wpIn _ _ _ _ _ _;refine wpIn_cond_false (qaF hr6.slot (show ev _ (.tmp 31)=V (scb Z) by((try refine zW ?_);(try with_reducible exact KE)))).sc_inv ?_;have hβ6:M6.β 2=V (c,o,n):=(qlA hr5 st6 hr6 (b:=2) (c:= .arr 2 0 (ir eII l)) rfl rfl).trans B;obtain⟨v6',hv6', -⟩:=hr6.slot 0 (.ref 2 0 0 l.length) (by((try refine zW ?_);(try with_reducible exact KE)));have e6:v6'= .slice ad l.length cap:=by
    have h:=hv6';rw[qc6 wh,qc6 wh,qc6 wh] at h;exact Option.some.inj (h.symm.trans hv0)
   subst e6;have hB6:=hr6.heap.rel.blk 2 (.arr 2 0 (ir eII l)) (by rw[hr6.heap.G];rfl);obtain⟨raw,hraw,hBm⟩:=qpj (C:=1) hB6 hβ6 (by rw[hrl];omega);obtain⟨u1,u2,rfl⟩: ∃u1 u2,raw= [u1,u2]:=by
    match raw,hraw with
    | [u1,u2],_=>exact⟨u1,u2,rfl⟩
   simp only[Kn,Kp] at hBm;have hrl2:(ir eII l++ [[IV.p (.sc u1),IV.p (.sc u2)]]).length=l.length+1:=by rw[Ki,hrl];rfl
   obtain⟨M7,hw7,st7,hβ7,hr7⟩:=ql7 hr6 (b:=2) (sz:=2) (g:=0) (t:=0) (f:=ir eII l) rfl hβ6 1 n (ir eII l++ [[.p (.sc u1), .p (.sc u2)]]) wh hBm hv6' (len:=l.length)
    ⟨ad,cap,rfl,c1,wa,wa, .inr ⟨c,o,_,rfl,by rw[A];simp,wa⟩⟩
   refine wpIn_skip ⟨M7,_,hw7,hst.trans (st1.trans (st2.trans (st3.trans (st6.trans st7)))),hr7,?_⟩;refine vc_sound _ 200 _ _ ?_;refine zS hrl2 ?_;refine qoc 200 (e:=67) (b:=2) (g:=1) (off:=0) (len:=l.length) (h:=l.length+1) (sz:=2) (X:= .i64) (j:=ir eII l++ [[.p (.sc u1), .p (.sc u2)]]) we we (by((try refine zW ?_);(try with_reducible exact KE))) (by(try simp only[go_sem,simprocAttr,Int.natCast_add,Int.natCast_one])) (by((try refine zW ?_);(try with_reducible exact KE))) wa rfl ?_;refine zS hrl2 ?_;refine qmL 200 (F:=179) (fn:=f179) (T:=63) (T':=4) (e:=67) (A:=1) (I:=0) (o:=0) (g:=1) (B:=2) (L:=1) (m:=((i:Int)+1).toNat) (i:=l.length+1 - ((i:Int)+1).toNat) (sz:=2) (O:=2) (H:=2) (b:=ir eII [m]) (c:=ir eII l++ [[.p (.sc u1), .p (.sc u2)]])
    (by((try refine zW ?_);(try with_reducible exact KE))) func179 we we we we we we (by((try refine zW ?_);(try with_reducible exact KE))) (by((try refine zW ?_);(try with_reducible exact KE))) wh wh wa wh (by((try refine zW ?_);(try with_reducible exact KE))) (by((try refine zW ?_);(try with_reducible exact KE))) rfl rfl ?_
   refine zS hrl2 ?_;(refine zM [0,1,2,7] ?_;refine zI [U,U,U,U,U,U,U,U,V []] ?_);refine zS hrl2 ?_;rw[qqS l m i hlt];exact pvs2_ir _
end Go.Proofs.NO
namespace Go.GN
section
variable{α:Type}
def swp(l:List α)(j:Nat)(x y:α):List α:=(l.set (j+1) y).set j x
def sink(lt:α->α->Bool):Nat->List α->List α
 | 0,l=>l
 | j+1,l=>match l[j+1]?,l[j]? with
   | some x,V y=>if lt x y then sink lt j (swp l j x y) else l
   | _,_=>l
def ins(lt:α->α->Bool):Nat->Nat->List α->List α
 | 0,_,l=>l
 | f+1,i,l=>ins lt f (i+1) (sink lt i l)
def qd1(lt:α->α->Bool)(l:List α):List α:=ins lt (l.length - 1) 1 l
def qi6(M j)(x y:α):(swp M j x y).length=M.length:=by simp[swp]
def ql5(lt): ∀(j) (l:List α),(sink lt j l).length=l.length
 | 0,l=>rfl
 | j+1,l=>by
   rw[sink];split
   .split
    .rw[ql5 lt j,qi6]
    .rfl
   .rfl
def insR(lt:α->α->Bool)(x:α):List α->List α
 | []=> [x]
 | y::r=>if lt x y then y::insR lt x r else x::y::r
def qjR(lt)(x:α): ∀(A B),sink lt A.length (A.reverse++x::B)=(insR lt x A).reverse++B
 | [],B=>by rfl
 | y::A,B=>by
   have a:((y::A).reverse++x::B)[A.length+1]? =V x:=by
    simp
   have b:((y::A).reverse++x::B)[A.length]? =V y:=by
    simp
   rw[Ks,sink,a,b];simp only;unfold insR;by_cases h:lt x y=Y
   .rw[if_pos h,if_pos h];have:swp ((y::A).reverse++x::B) A.length x y=A.reverse++x::(y::B):=by
     simp_all[swp]
    rw[this,qjR lt x A (y::B)];simp
   grind
def qev(lt)(x:α): ∀(A),(insR lt x A).Perm (x::A)
 | []=> .refl _
 | y::A=>by
   unfold insR;split
   .exact((qev lt x A).cons y).trans (.swap ..)
   rfl
def qqQ{lt}{x z:α}{A}:z∈insR lt x A↔z=x\/z∈A:=by rw[(qev lt x A).mem_iff,List.mem_cons]
end
section
variable{α:Type}(key:α->Int)
def ltK(x y:α):Bool:=decide (key x < key y)
theorem qjq(x): ∀(A),A.Pairwise (λa b=>key b<=key a)->(insR (ltK key) x A).Pairwise (λa b=>key b<=key a)
 | [],_=>KD ..
 | y::A,h=>by
   obtain⟨e,f⟩:=List.pairwise_cons.1 h;unfold insR;by_cases d:ltK key x y=Y
   .rw[if_pos d];unfold ltK at d;refine List.pairwise_cons.2 ⟨λz c=>?_,qjq x A f⟩;rcases qqQ.1 c with rfl | c<;>grind
   .rw[if_neg d];unfold ltK at d;refine List.pairwise_cons.2 ⟨λz c=>?_,h⟩
    grind
def qdh:List α->List α->List α
 | [],A=>A.reverse
 | x::B,A=>qdh B (insR (ltK key) x A)
theorem qib: ∀(B A),ins (ltK key) B.length A.length (A.reverse++B)=qdh key B A
 | [],A=>by simp[ins,qdh]
 | x::B,A=>by
   rw[Ks,ins,qjR,qdh,<-qib B];rw[(qev (ltK key) x A).length_eq,Ks]
theorem qgK(l):qd1 (ltK key) l=qdh key l []:=by
 cases l with
 | nil=>rfl
 | cons x B=>exact qib key B [x]
theorem qhv: ∀(B A),(qdh key B A).Perm (A++B)
 | [],A=>by simp_all[qdh]
 | x::B,A=>by
   refine(qhv B _).trans ?_;exact((qev _ x A).append_right B).trans (List.perm_middle.symm)
theorem qjU: ∀(B A),A.Pairwise (λa b=>key b<=key a)->(qdh key B A).Pairwise (λa b=>key a<=key b)
 | [],A,h=>by grind[qdh]
 | x::B,A,h=>by exact qjU B _ (qjq key x A h)
theorem qfO(l):(qd1 (ltK key) l).Perm l:=by rw[qgK];exact qhv key l []
theorem qhL(l):(qd1 (ltK key) l).Pairwise (λa b=>key a<=key b):=by rw[qgK];exact qjU key l [] .nil
def qeB:List α->Bool
 | x::y::r=>decide (key x=key y) || qeB (y::r)
 | _=>Z
theorem qei: ∀ {l},l.Pairwise (λa b=>key a<=key b)->qeB key l=Z->l.Pairwise (λa b=>key a < key b)
 | [],_,_=> .nil
 | [x],_,_=>KD ..
 | x::y::r,h,t=>by
   unfold qeB at t;rw[Bool.or_eq_false_iff,decide_eq_false_iff_not] at t;obtain⟨d,e⟩:=List.pairwise_cons.1 h;have i:=qei e t.2;refine List.pairwise_cons.2 ⟨λz c=>?_,i⟩;have f:=d y (Ko ..);rcases List.mem_cons.1 c with rfl | c
   .omega
   .have:=(List.pairwise_cons.1 i).1 z c;omega
theorem qeC: ∀ {l},l.Pairwise (λa b=>key a < key b)->qeB key l=Z
 | [],_=>rfl
 | [_],_=>rfl
 | x::y::r,h=>by
   obtain⟨c,d⟩:=List.pairwise_cons.1 h;have:=c y (Ko ..);unfold qeB;rw[Bool.or_eq_false_iff,decide_eq_false_iff_not];exact⟨wa,qeC d⟩
theorem qhr: ∀ {l k:List α},l.Perm k->l.Pairwise (λa b=>key a < key b)->k.Pairwise (λa b=>key a < key b)->l=k
 | [],k,p,_,_=>(List.nil_perm.1 p).symm
 | x::l, [],p,_,_=>List.perm_nil.1 p
 | x::l,y::k,p,c,d=>by
   obtain⟨f,i⟩:=List.pairwise_cons.1 c;obtain⟨j,m⟩:=List.pairwise_cons.1 d;have e:x=y:=by
    grind
   subst e;rw[qhr ((List.perm_cons _).1 p) i m]
def qg2(l k:List α):Option (List α):=let s:=qd1 (ltK key) (l++k);if qeB key s then U else V s
theorem qfA{l k s}:qg2 key l k=V s↔s.Perm (l++k)/\s.Pairwise (λa b=>key a < key b):=by
 unfold qg2;constructor
 .intro h;simp only at h;split at h
  .grind
  .cases h;exact⟨qfO key _,qei key (qhL key _) wg⟩
 .rintro⟨p,r⟩;have q:=qfO key (l++k);have f:(s.map key).Nodup:=by
   grind
  have n:=((p.trans q.symm).map key).nodup_iff.1 f;have c:(qd1 (ltK key) (l++k)).Pairwise (λa b=>key a < key b):=by
   rw[List.nodup_iff_pairwise_ne,List.pairwise_map] at n;exact(n.and (qhL key (l++k))).imp λ⟨a,b⟩=>by omega
  have e:=qhr key (p.trans q.symm) r c;simp only;rw[qeC key c,e];rfl
end
end Go.GN
