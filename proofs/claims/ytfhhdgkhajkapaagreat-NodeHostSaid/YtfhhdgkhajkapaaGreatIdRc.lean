/- Facts leant on. -/
import Derived.Test.YtfhhdgkhajkapaaGreatIdRb
set_option linter.all false
open Nat renaming zero_lt_succ->Ka,not_lt_zero->Kb,lt_of_lt_of_le->Kc,zero_add->Kd
open List renaming getElem?_toArray->Ke,getElem?_eq_getElem->Kf,nil_append->Kg,mem_append_left->Kh,mem_append_right->Ki,mem_of_getElem?->Kj,filter_cons->Kk
open Option renaming some->U
open Bool renaming true->V,false->Y
namespace Go.Idl
variable{P:Program}{h0:IH}{B:Nat->Prop}
def qfa(P:Program)(h0:IH)(B:Nat->Prop)(Q:Exit->qab->Prop)(a:Array Oper)(o:Oper)(S:qab):Prop:=
 ∃f args t q,o.op= .call {callee:= .value f,args:=⟨args⟩,argTypes:=⟨t⟩}/\qao (ev S.s) f args=U q/\qam a S.s o=U V/\fnOk P q.1=V/\
  qeM P q.1 (qbw P t q.2) (look (S.l++h0.m)) S.nx λc W=> ∀n,S.nx<=n->B n->Q (.panic c) ⟨S.n, [],S.d,n,W++S.l⟩
inductive qa1(P:Program)(h0:IH)(B:Nat->Prop)(Q:Exit->qab->Prop)(all:Array Oper):List Nat->List Oper->qab->List FR->qab->Prop where
 | nil (S:qab):qa1 P h0 B Q all [] [] S [] S
 | live {n:Nat} {fl:List Nat} {o:Oper} {r:List Oper} {S S1 S':qab} {fr:FR} {frs:List FR} (hn:n≠1/\n≠2) (h1:qaH P h0 all [o] S [fr] S1) (h:qa1 P h0 B Q all fl r S1 frs S'):
   qa1 P h0 B Q all (n::fl) (o::r) S (fr::frs) S'
 | dead {n:Nat} {fl:List Nat} {o:Oper} {r:List Oper} {S S':qab} {frs:List FR} (hn:n=1\/n=2) (hp:n=2->qfa P h0 B Q all o S) (hd:dOk S.n o.dst=V)
   (h:qa1 P h0 B Q all fl r ⟨S.n,putS o.dst .dead S.s,S.d,S.nx,S.l⟩ frs S'):qa1 P h0 B Q all (n::fl) (o::r) S ({x:= .dead}::frs) S'
section
variable{Q:Exit->qab->Prop}{all:Array Oper}{fl:List Nat}{ops:List Oper}{S S':qab}{frs:List FR}
def qaH.one{o fr a}(h:qaH P h0 all [o] S [fr] a):
  a=⟨S.n,putS o.dst fr.x S.s,S.d,S.nx+fr.F.length,fr.W.reverse++S.l⟩/\qk4 P h0 all S a o fr S.s S.l/\(∀b∈fr.F,S.nx<=b/\b < a.nx):=by
 obtain⟨f,d,c⟩:=h.at 0 o rfl;cases d;refine⟨?_,c,c.range⟩;cases h with
 | op e i j g h=>cases h;rfl
 | skip e g h=>cases h;simp
def qa1.nx(h:qa1 P h0 B Q all fl ops S frs S'):S.nx<=S'.nx:=by
 induction h with
 | nil S=>simp
 | live a b h i=>exact Nat.le_trans b.nx i
 | dead a c d h i=>omega
def qa1.length(h:qa1 P h0 B Q all fl ops S frs S'):frs.length=ops.length/\fl.length=ops.length:=by induction h<;>simp_all
def qa1.fresh(h:qa1 P h0 B Q all fl ops S frs S'):
  (∀(i:Nat) (f:FR),frs[i]? =U f-> ∀b∈f.F,S.nx<=b/\b < S'.nx)/\ ∀(i j:Nat) (f g:FR),i < j->frs[i]? =U f->frs[j]? =U g-> ∀b∈f.F,∀k∈g.F,b < k:=by
 induction h with
 | nil S=>simp
 | live t r h n=>
   obtain⟨l,o⟩:=n;obtain⟨e,w,s⟩:=r.one;have u:=h.nx;have v:=r.nx;refine⟨λi f a b c=>?_,λi j f g p a m b c k d=>?_⟩
   .cases i with
    | zero=>simp at a;subst a;have:=s b c;omega
    | succ i=>have:=l i f wz b c;omega
   .obtain⟨j,rfl⟩: ∃q,j=q+1:=⟨j - 1,wa⟩;cases i with
    | zero=>simp at a;subst a;have:=s b c;have:=l j g (by simpa using m) k d;omega
    | succ i=>exact o i j f g wa wz (by simpa using m) b c k d
 | dead t x y h n=>
   obtain⟨l,o⟩:=n;refine⟨λi f a b c=>?_,λi j f g p a m b c k d=>?_⟩
   .cases i with
    | zero=>simp at a;subst a;simp at c
    | succ i=>exact l i f wz b c
   .obtain⟨j,rfl⟩: ∃q,j=q+1:=⟨j - 1,wa⟩;cases i with
    | zero=>simp at a;subst a;simp at c
    | succ i=>exact o i j f g wa wz (by simpa using m) b c k d
def qa1.at(h:qa1 P h0 B Q all fl ops S frs S'): ∀(i:Nat) (o:Oper) (n:Nat),ops[i]? =U o->fl[i]? =U n->n≠1->n≠2->
  ∃fr,frs[i]? =U fr/\qk4 P h0 all S S' o fr (selS ops frs (λk=>decide (k < i)) S.s) (selL frs (λk=>decide (k < i)) S.l):=by
 induction h with
 | nil S=>simp
 | @live w fl o r S z S' fr frs t u h m=>
   intro i p n a c j l;obtain⟨e,d,A⟩:=u.one;have x:=h.nx;have y:=u.nx;cases i with
   | zero=>
     simp at a;subst a;refine⟨fr,rfl,?_⟩;simp only[Kb,decide_false,qb2,qcx];exact⟨d.dst,d.does,d.reads,d.new,λb q=>wg⟩
   | succ i=>
     obtain⟨f,s,g⟩:=m i p n wz (by simpa using c) j l;refine⟨f,by simpa using s,?_⟩;simp only[selS,selL,sel_pre,Ka,decide_true,if_true];subst e;exact⟨g.dst,g.does,g.reads,g.new,λb q=>(by have:=g.range b q;omega)⟩
 | @dead w fl o r S S' frs t C D h m=>
   intro i p n a c j l;cases i with
   | zero=>
     simp_all
   | succ i=>
     obtain⟨f,s,g⟩:=m i p n wz wn j l;refine⟨f,wn,?_⟩;simp only[selS,selL,sel_pre,Ka,decide_true,if_true,List.reverse_nil,Kg];exact⟨g.dst,g.does,g.reads,g.new,g.range⟩
def qa1.pan(h:qa1 P h0 B Q all fl ops S frs S'): ∀(i:Nat) (o:Oper),ops[i]? =U o->fl[i]? =U 2->
  ∃nx,nx<=S'.nx/\qfa P h0 B Q all o ⟨S.n,selS ops frs (λk=>decide (k < i)) S.s,S.d,nx,selL frs (λk=>decide (k < i)) S.l⟩:=by
 induction h with
 | nil S=>simp
 | @live n fl o r S s S' t frs l p h c=>
   intro i d a b;obtain⟨e,u,v⟩:=p.one;cases i with
   | zero=>grind
   | succ i=>
     obtain⟨nx,g,f⟩:=c i d wz (by simpa using b);refine⟨nx,g,?_⟩;simp only[selS,selL,sel_pre,Ka,decide_true,if_true];subst e;omega
 | @dead n fl o r S S' frs l q w h c=>
   intro i d a b;have j:=h.nx;cases i with
   | zero=>
     simp at b a;subst b a;refine⟨S.nx,j,?_⟩;simp only[Kb,decide_false,qb2,qcx];exact q rfl
   | succ i=>
     simp_all[selS,selL,sel_pre,if_true,Kg]
end
def flGo(m:List Nat)(j:Nat):Nat->List Nat->Bool
 | _, []=>V
 | i,n::r=>(match n with
   | 0=>V
   | 1=>((m[i]?).getD 0).testBit j
   | 2=>i==j
   | _=>((m[j]?).getD 0).testBit i) && flGo m j (i+1) r
def qgf{a j}: ∀ {l i},flGo a j i l=V-> ∀(k n),l[k]? =U n->
  (n=1->((a[i+k]?).getD 0).testBit j=V)/\(n=2->i+k=j)/\(3<=n->((a[j]?).getD 0).testBit (i+k)=V)
 | [],i,_,k,n,h=>by grind
 | m::l,i,h,k,n,b=>by
   simp[flGo] at h;cases k with
   | zero=>
     grind
   | succ k=>
     have:=qgf h.2 k n wg
     grind
def wchk:List Nat->List FP->Prop
 | n::fl,f::r=>(if 3<=n then True else f.2= [])/\wchk fl r
 | _,_=>True
def qjZ: ∀ {fl r},wchk fl r-> ∀(i n:Nat) (f),fl[i]? =U n->r[i]? =U f->f.2≠ []->3<=n
 | [],r,_,i,n,f,h,_,_=>by grind
 | _::_, [],_,i,n,f,_,h,_=>by grind
 | m::fl,q::r,h,0,n,f,a,b,c=>by
   have:=h.1
   grind
 | m::fl,q::r,h,i+1,n,f,a,b,c=>qjZ h.2 i n f wg wg c
section
variable{ops:List Oper}{frs:List FR}{S S':qab}{u:List (Option (List Nat))}{M0 M:Mem}{a:Act}{fl:List Nat}{Q0:Exit->qab->Prop}
theorem J.stepX{L:Nat->Bool}{ro:Option Nat}(a5:RoOk ro (ops.all ndOp))(C:Stat ops u)(hd:qa1 P h0 B Q0 ops.toArray fl ops S frs S')(hc:chk u (frs.map FR.fp))(g:J M0 h0 ops frs S L M a){i n:Nat}{o:Oper}(T:ops[i]? =U o)(hn:fl[i]? =U n)(a6:n≠1)(a7:n≠2)
  (hr: ∀e∈o.after.toList,Region.binds .any e=V->L e.on=V) (hi:L i=Y) {K:Act->World->Prop} {Q:Exit->Act->World->Prop}
  (hK: ∀M' a',J M0 h0 ops frs S (λk=>if k=i then V else L k) M' a'->K a' M'.w):wpOpIn (Wd ro) 0 P ops.toArray Q i K a M.w:=by
 obtain⟨I,l,N⟩:=hd.at i o n T hn a6 a7;have r:=g.free C T hr hi;have W:=hd.length.1;have D: ∀t,t∈o.looksAt ops.toArray->look (selS ops frs L S.s) t=look (selS ops frs (λk=>decide (k < i)) S.s) t:=by
  intro t ht;refine selS_agree rfl λj oj A c e=>?_;exact C.looks i j o oj (r j c) T A t e ht
 have E: ∀p∈I.R,look (selL frs L S.l++h0.m) p.1=U p.2:=by
  intro p hp;rw[<-N.reads p hp,qae,qae];congr 1;rw[qbP (l':=S.l) rfl λj f A c q hq=>?_];exact λe=>((qeq C W hc (r j c) l A q hq).1 p hp) e.symm
 have hA: ∀b,M.H.A b->b < S'.nx:=by
  intro b m;rcases g.A b m with h | ⟨j,f,_,hf,m⟩
  .exact Kc h hd.nx
  .exact(hd.fresh.1 j f hf b m).2
 have hM:HRel S'.nx (selL frs L S.l++h0.m) M:=⟨g.rel,hA,g.G⟩;have O: ∀b∈I.F,¬M.H.A b:=by
  intro b m a8;obtain⟨r1,_⟩:=hd.fresh.1 i I l b m;rcases g.A b a8 with h | ⟨j,f,R,hf,a1⟩
  .omega
  .have c:j≠i:=by rintro rfl;rw[hi] at R;cases R
   rcases Nat.lt_or_gt_of_ne c with h | h
   .have:=hd.fresh.2 j i f I h hf l b a1 b m;omega
   .have:=hd.fresh.2 i j I f h l hf b m b a1;omega
 have a2: ∀y∈o.op.operands,∀z,ev (selS ops frs (λk=>decide (k < i)) S.s) y=U z->VRel M z (a.eval y):=by
  intro y hy z hz;refine ev_rel' g.slot (λt ht=>D t ?_) hz;subst ht;exact Kh _ (List.mem_filterMap.2 ⟨.tmp t,by simpa using hy,rfl⟩)
 have s: ∀j w d,o.guard=U (j,w)->(ops.toArray[j]?).bind (·.dst)=U d->look (selS ops frs L S.s) d=look (selS ops frs (λk=>decide (k < i)) S.s) d:=by
  intro j w d hg a9;refine D d (Ki _ ?_);rw[hg];simp only[a9];simp
 have F: ∀(v:Value) (M':Mem),qaf M M'->MRel M'->M'.H=M.H.upd I.W->VRel M' I.x v->J M0 h0 ops frs S (λk=>if k=i then V else L k) M' (a.put o.dst v):=by
  intro v M' st a0 hH hv;have G: ∀j,(if j=i then V else L j)≠L j->j=i:=by
   intro j h;by_cases e:j=i
   .exact e
   .rw[if_neg e] at h;exact absurd rfl h
  refine⟨g.st.trans st,a0,λb m=>?_,λb=>?_,?_,λt x hx=>?_,?_,λk ok hk hl e he m=>?_⟩
  .rw[hH,qiI] at m;rcases m with m | ⟨b0,m⟩
   .rcases g.A b m with h | ⟨j,f,H,h2,h3⟩
    .exact .inl h
    .exact .inr ⟨j,f,by by_cases e:j=i<;>simp[e,H],h2,h3⟩
   .rcases N.new _ m with h | ⟨b4,h⟩
    .exact .inr ⟨i,I,wb,l,h⟩
    .have H:=E _ h;simp only at H;rw[<-g.G] at H;rcases g.A b (g.rel.dom b _ H) with h | ⟨j,f,H,h2,h3⟩
     .exact .inl h
     .exact .inr ⟨j,f,by by_cases e:j=i<;>simp[e,H],h2,h3⟩
  .rw[hH,qhd,qae];cases hw:look I.W.reverse b with
   | some b0=>
     rw[qi3 (i:=i) wb l hw λj f A a3 R p hp e=>?_];have a4:L j=V:=by simpa[show j≠i by omega] using R
     have b1:=r j (by rw[a4];simp;omega);have hq:=look_mem hw;exact(qeq C W hc b1 l A p hp).2 _ (by simpa using hq) e.symm
   | none=>
     rw[qbP (l':=S.l) (L':=L) rfl λj f A c p hp e=>?_]
     .rw[g.G b,qae]
     .have:=G j c;subst this;rw[l] at A;cases A;exact look_none hw p (by simpa using hp) e
  .cases X:o.dst with
   | none=>exact g.size
   | some d=>simp only[Act.put,Array.size_setIfInBounds];exact g.size
  .by_cases e:o.dst=U t
   .rw[qi4 (i:=i) wb T l e (λj oj A c=>C.dst i j o oj (Ne.symm c) T A t e)] at hx;cases hx;have a3:t < a.tmps.size:=by
     have:=N.dst;rw[e] at this;rw[g.size];simpa[dOk] using this
    exact⟨v,by rw[e];simp[Act.put,a3],hv⟩
   .rw[selS_agree (L':=L) (s':=S.s) rfl λj oj A c=>(by have:=G j c;subst this;rw[T] at A;cases A;exact e)] at hx;obtain⟨v',H,h2⟩:=g.slot t x hx;refine⟨v',?_,h2.step st⟩;cases X:o.dst with
    | none=>exact H
    | some d=>
      simp only[Act.put];rw[Array.getElem?_setIfInBounds_ne (λh=>e (by rw[X,h]))];exact H
  .have:(a.put o.dst v).defers=a.defers:=vp
   rw[this];exact g.defs.step st
  .by_cases ek:k=i
   .subst ek;rw[T] at hk;cases hk;have:=hr e he m;show(if e.on=k then V else L e.on)=V;split<;>simp[this]
   .have b2:L k=V:=by simpa[ek] using hl
    have:=g.closed k ok hk b2 e he m;show(if e.on=i then V else L e.on)=V;split<;>simp[this]
 refine qkm (λo' b3=>a5.mem (Kj (by simpa using b3))) ?_;simp only[Ke,T];rcases N.does with ⟨hw,hl⟩ | ⟨hw,he⟩
 .rw[if_pos (qdN g.slot s hw)];exact(hl S'.nx _ M a hM E O a2 K Q λv M' st a0 hH hv=>hK M' _ (F v M' st a0 hH hv))
 .rw[qdN g.slot s hw];simp only[Bool.false_eq_true,if_false];refine hK M _ (F undef M (.refl M) g.rel (by rw[he];rfl) (by rw[he];exact qiE _))
theorem J.panX{L:Nat->Bool}{k:List It}{j0:Nat}{ro:Option Nat}(a0:RoOk ro (ops.all ndOp))(D:Stat ops u)(O:qa1 P h0 B Q0 ops.toArray fl ops S frs S')(a1:flGo (qa0 ops []) j0 0 fl=V)(hc:wchk fl (frs.map FR.fp))(hB:B S'.nx)(l:J M0 h0 ops frs S L M a){o:Oper}(T:ops[j0]? =U o)(hn:fl[j0]? =U 2)
  (hr: ∀e∈o.after.toList,Region.binds .any e=V->L e.on=V) (hi:L j0=Y) {K:Act->World->Prop}:
  wpOpIn (Wd ro) 0 P ops.toArray (qcR h0 M0 λe S=>after P h0 Q0 k e S) j0 K a M.w:=by
 have c:=l.free D T hr hi;obtain⟨b4,b5⟩:=O.length;obtain⟨nx,a2,f,args,ts,q,a3,E,hw,a4,r,R,ch,Wp,s,X,⟨e1,ha,hR⟩,hQ⟩:=O.pan j0 o T hn;have g: ∀t,t∈o.looksAt ops.toArray->look (selS ops frs L S.s) t=look (selS ops frs (λk=>decide (k < j0)) S.s) t:=by
  intro t ht;refine selS_agree rfl λj oj hj A e=>?_;exact D.looks j0 j o oj (c j A) T hj t e ht
 have a5: ∀b,look (selL frs L S.l++h0.m) b=look (selL frs (λk=>decide (k < j0)) S.l++h0.m) b:=by
  intro b;rw[qae,qae];congr 1;refine qbP rfl λj f hj A p X=>?_;exfalso;have b6:=qad hj;have F:=Kf (show j < fl.length by omega);have h3:=qjZ hc j _ f.fp F (by rw[List.getElem?_map,hj];rfl) (by simp only[FR.fp];intro e;rw[List.map_eq_nil_iff] at e;rw[e] at X;cases X);have h4:=(qgf a1 j _ F).2.2 h3;rw[Kd] at h4;exact(c j A).2.2 h4
 have hA: ∀b,M.H.A b->b < S'.nx:=by
  intro b n;rcases l.A b n with h | ⟨j,f,_,hf,n⟩
  .exact Kc h O.nx
  .exact(O.fresh.1 j f hf b n).2
 have C:HRel S'.nx (selL frs (λk=>decide (k < j0)) S.l++h0.m) M:=⟨l.rel,hA,λb=>by rw[l.G,a5]⟩;have G: ∀y∈o.op.operands,∀z,ev (selS ops frs (λk=>decide (k < j0)) S.s) y=U z->VRel M z (a.eval y):=by
  intro y hy z hz;refine ev_rel' l.slot (λt ht=>g t ?_) hz;subst ht;exact Kh _ (List.mem_filterMap.2 ⟨.tmp t,by simpa using hy,rfl⟩)
 have m: ∀j w d,o.guard=U (j,w)->(ops.toArray[j]?).bind (·.dst)=U d->look (selS ops frs L S.s) d=look (selS ops frs (λk=>decide (k < j0)) S.s) d:=by
  intro j w d hg a6;refine g d (Ki _ ?_);rw[hg];simp only[a6];simp
 have H:qeo M S.d a.defers:=l.defs;refine qkm (λo' a7=>a0.mem (Kj (by simpa using a7))) ?_;simp only[Ke,T];rw[if_pos (qdN l.slot m hw)];obtain⟨vs,I,a8,hv⟩:=qez (f:=f) (args:=args) (ts:=⟨ts⟩) G a3 E a4;have hh:Here M s nx R 0:=qgU C.rel ha hR (λb N _ n=>by rw[C.G];exact n) (λb h1 h2 n=>by omega);have a9:wks q.2 (rnms (ridx s nx) r):=by rw[e1];exact qcV ts q.2
 obtain⟨e2,e3⟩:=qch a9;rw[qaG] at e2;unfold Oper.wp;rw[I];refine Calls.mono (X.calls C.rel hh wa λi y v hy b0=>?_) λe w' ⟨M',W,e4,st,b1,hH,he,hW,hk⟩=>?_
 .have b7:=qad hy;have hx:=Kf (show i < q.2.length by omega);exact(hv i _ v hx b0).wk (e3 i _ _ hx (qbK hy))
 .subst e4 he;refine⟨M',⟨S.n, [],S.d,S'.nx,rnL (ridx s nx) W++selL frs (λk=>decide (k < j0)) S.l⟩,rfl,l.st.trans st,⟨?_,l.size,λt x hx=>?_,H.step st⟩,qc2 (hQ W hW _ a2 hB)⟩
  .rw[List.append_assoc];refine qft C b1 (Nat.le_refl _) hH λp b2=>?_;obtain⟨q',b3,e⟩:=qcY b2;rw[e];obtain⟨N,n,_⟩:=qfN hR (hk q' b3);exact C.A _ (C.rel.dom _ N (by rw[C.G];exact n))
  .simp[look] at hx
theorem drawnX{k:List It}{j0:Nat}{o0:Oper}{ro:Option Nat}(C:RoOk ro (ops.all ndOp))(m:Stat ops u)(D:qa1 P h0 B Q0 ops.toArray fl ops S frs S')(E:flGo (qa0 ops []) j0 0 fl=V)(hc:chk u (frs.map FR.fp))(hw:wchk fl (frs.map FR.fp))(hB:B S'.nx)(t:ops[j0]? =U o0)(n:fl[j0]? =U 2):
  ∀(f:Nat) (c:Array Bool) (M:Mem) (a:Act),c.size=ops.length->(c.toList.filter (·==V)).length+f=ops.length->c.getD j0 Y=Y->
   J M0 h0 ops frs S (λk=>c.getD k Y) M a->wpAnyIn (Wd ro) 0 P .any ops.toArray (qcR h0 M0 λe S=>after P h0 Q0 k e S) f c a M.w:=by
 have g: ∀(c:Array Bool) (k:Nat),k < c.size->c.getD k V=c.getD k Y:=by
  intro c k s;simp[s]
 have F:=qad t;have p: ∀(c:Array Bool),c.size=ops.length->Region.ready .any ops.toArray c= []-> ∀k,k < ops.length->c.getD k Y=V:=by
  intro c z N k;induction k using Nat.strongRecOn with
  | ind k v=>
    intro s;cases hl:c.getD k Y with
    | true=>rfl
    | false=>
      exfalso;have:k∈Region.ready .any ops.toArray c:=by
       rw[mem_ready];refine⟨by rw[g c k wa];exact hl,ops[k],by simp[s],λe O G=>?_⟩;have H:=m.low k ops[k] (by simp[s]) e (by simpa using O) G;exact v e.on H wa
      rw[N] at this;cases this
 have q: ∀(l:List Bool),(l.filter (·==V)).length=l.length-> ∀k,k < l.length->(l[k]?).getD Y=V:=by
  intro l;induction l with
  | nil=>intro _ k s;simp at s
  | cons b l v=>
    intro h k s;have R:=List.length_filter_le (·==V) l;cases b with
    | true=>
      simp only[Kk,beq_self_eq_true,if_true,List.length_cons] at h;cases k with
      | zero=>simp
      | succ k=>simpa using v wa k (by simpa using s)
    | false=>
      simp at h;simp at R;omega
 have I: ∀(l:List Bool) (i:Nat),l[i]? =U Y->((l.set i V).filter (·==V)).length=(l.filter (·==V)).length+1:=by
  intro l;induction l with
  | nil=>intro i h;simp at h
  | cons b l v=>
    intro i h;cases i with
    | zero=>simp at h;subst h;simp
    | succ i=>
      have:=v i wE;simp only[List.set_cons_succ,Kk];split<;>simp_all
 intro f;induction f with
 | zero=>
   intro c M a z hn K L;exfalso;have:=q c.toList (by simpa[z] using hn) j0 (by simpa[z] using F);have:c.getD j0 Y=V:=by simpa using this
   rw[K] at this;cases this
 | succ f v=>
   intro c M a z hn K L;refine⟨λN=>?_,λi hi=>?_⟩
   .have:=p c z N j0 F;rw[K] at this;cases this
   .obtain⟨h1,o,A,T⟩:=mem_ready.1 hi;simp only[Ke] at A;have w:=qad A;have d:c.getD i Y=Y:=by rw[<-g c i wa];exact h1
    have x:=Kf (show i < fl.length by rw[D.length.2];exact w);have y:=qgf E i _ x;rw[Kd] at y;have j: ∀e∈o.after.toList,Region.binds .any e=V->c.getD e.on Y=V:=λe O G=>T e (by simpa using O) G
    by_cases W:fl[i]'(by rw[D.length.2];exact w)=2
    .have e:=y.2.1 W;subst e;rw[A] at t;cases t;exact L.panX C m D E hw hB A n j d
    .by_cases e1:fl[i]'(by rw[D.length.2];exact w)=1
     .have hp:=m.prec i j0 (y.1 e1);have:=hp.listed L.closed (.inr ⟨o,A,j⟩);rw[K] at this;cases this
     .refine L.stepX C m D hc A x e1 W j d λM' a' X=>?_;have a0:i≠j0:=by
       rintro rfl;rw[x] at n;simp only[Option.some.injEq] at n;exact W n
      refine v _ M' a' (by simpa using z) ?_ ?_ ?_
      .have G:c.toList[i]? =U Y:=by
        have r:i < c.size:=wa
        simp[r] at d;simp[r,d]
       have:=I c.toList i G;simp only[Array.toList_setIfInBounds];omega
      .rw[getD_set_ne Y a0];exact K
      .have:(λk=>(c.setIfInBounds i V).getD k Y)=λk=>if k=i then V else c.getD k Y:=by
        funext k;by_cases e:k=i
        .subst e;have r:k < c.size:=wa
         simp[r]
        .rw[getD_set_ne Y (Ne.symm e),if_neg e]
       rw[this];exact X
theorem qhm{id k j0 o0}(m:P.follows .mixedOrders=V)(d:stat ops u=V)(e:flGo (qa0 ops []) j0 0 fl=V)(n:qa1 P h0 B Q0 ops.toArray fl ops S frs S')
  (p:chk u (frs.map FR.fp)) (q:wchk fl (frs.map FR.fp)) (r:B S'.nx) (f:ops[j0]? =U o0) (g:fl[j0]? =U 2):IRun P h0 (.code (.region id ops.toArray V)::k) S Q0:=by
 intro M0 s M a y h ro j;refine wpIn_region_any m ?_;have:=drawnX (M0:=M0) (k:=k) (ro:=ro) j (qjV d) n e p q r f g ops.length (Array.replicate ops.length Y)
  {M with w:=M.w.drew} a wb wb (by simp;grind) ?_
 .simp_all
 .have c:(λk=>(Array.replicate ops.length Y).getD k Y)=λ_=>Y:=by
   simp
   grind
  rw[c];exact⟨y.trans (.drew M),h.heap.rel.drew,λb z=> .inl (h.heap.A b z),λb=>(by rw[qcx];exact h.heap.G b),h.size,
   λt x l=>(by rw[qb2] at l;obtain⟨v,A,C⟩:=h.slot t x l;exact⟨v,A,C.step (.drew M)⟩),h.defs.step (.drew M),λi o E D=>wg⟩
end
def PRun(P:Program)(h0:IH)(Q:Exit->qab->Prop)(all:Array Oper)(fl:List Nat)(l:List Oper)(S:qab)(b:List FP)(K:List FP->Prop):Prop:=
 ∃frs S',qa1 P h0 (λ_=>True) Q all fl l S frs S'/\K (b++frs.map FR.fp)
def pvx(P:Program)(h0:IH)(Q:Exit->qab->Prop)(all:Array Oper)(K:List FP->Prop):List Nat->List Oper->qab->List FP->Prop
 | [], [],_,b=>K b
 | 1::fl,o::r,S,b=>dOk S.n o.dst=V/\pvx P h0 Q all K fl r ⟨S.n,putS o.dst .dead S.s,S.d,S.nx,S.l⟩ (b++ [([], [])])
 | 2::fl,o::r,S,b=>(dOk S.n o.dst=V/\qfa P h0 (λ_=>True) Q all o S)/\pvx P h0 Q all K fl r ⟨S.n,putS o.dst .dead S.s,S.d,S.nx,S.l⟩ (b++ [([], [])])
 | _::fl,o::r,S,b=>dvc P h0 all (λS' c=>pvx P h0 Q all K fl r S' c) [o] S b
 | _,_,_,_=>False
def qey{Q all K}: ∀(fl l S b),pvx P h0 Q all K fl l S b->PRun P h0 Q all fl l S b K
 | [], [],S,b,h=>⟨[],S, .nil S,by simp[List.map_nil];exact h⟩
 | [],_::_,S,b,h=>h.elim
 | n::fl, [],S,b,h=>by
   rcases n with _ | _ | _ | n<;>exact h.elim
 | n::fl,o::r,S,b,h=>by
   have c:(n≠1/\n≠2)->dvc P h0 all (λS' f=>pvx P h0 Q all K fl r S' f) [o] S b->PRun P h0 Q all (n::fl) (o::r) S b K:=by
    intro p h;obtain⟨frs,q,d,g⟩:=dvc_sound _ _ _ h;have i:=d.length
    match frs,i with
    | [s],_=>
      obtain⟨j,S',k,m⟩:=qey fl r q _ g;exact⟨s::j,S', .live p d k,wg⟩
   rcases n with _ | _ | _ | n
   .exact c wh h
   .obtain⟨d,g⟩:=h;obtain⟨frs,S',k,m⟩:=qey fl r _ _ g;exact⟨_::frs,S', .dead (.inl rfl) (λe=>by omega) d k,by simpa[FR.fp] using m⟩
   .obtain⟨⟨d,t⟩,g⟩:=h;obtain⟨frs,S',k,m⟩:=qey fl r _ _ g;exact⟨_::frs,S', .dead (.inr rfl) (λ_=>t) d k,by simpa[FR.fp] using m⟩
   .exact c ⟨wa,wa⟩ h
def qcW{ops id k S Q}(u j0 fl)(e:P.follows .mixedOrders=V)(c:stat ops u=V)
  (b:(flGo (qa0 ops []) j0 0 fl && (ops[j0]?).isSome && fl[j0]? ==U 2)=V)
  (h:pvx P h0 Q ops.toArray (λf=>chk u f/\wchk fl f) fl ops S []):IRun P h0 (.code (.region id ops.toArray V)::k) S Q:=by
 simp only[Bool.and_eq_true,beq_iff_eq] at b;obtain⟨⟨g,i⟩,j⟩:=b;obtain⟨o,d⟩:=Option.isSome_iff_exists.1 i;obtain⟨frs,S',l,m,n⟩:=qey _ _ _ _ h;exact qhm e c g l wg wg trivial d j
section
variable{Q:Exit->qab->Prop}{all:Array Oper}{K:List FP->Prop}{fl:List Nat}{o:Oper}{r:List Oper}{N:Nat}{s:List (Nat × IV)}{d:List IDef}{nx:Nat}{l:List (Nat × IBlk)}{acc:List FP}
@[go_sem ↓] theorem pvx_nil{S}:pvx P h0 Q all K [] [] S acc=K acc:=(rfl)
@[go_sem ↓] theorem pvx_3{S}:pvx P h0 Q all K (3::fl) (o::r) S acc=dvc P h0 all (λS' b=>pvx P h0 Q all K fl r S' b) [o] S acc:=(rfl)
@[go_sem ↓] theorem pvx_2:pvx P h0 Q all K (2::fl) (o::r) ⟨N,s,d,nx,l⟩ acc=((dOk N o.dst=V/\qfa P h0 (λ_=>True) Q all o ⟨N,s,d,nx,l⟩)/\pvx P h0 Q all K fl r ⟨N,putS o.dst .dead s,d,nx,l⟩ (acc++ [([], [])])):=(rfl)
variable{dst:Option Tmp}{ty:TypeId}{pos:String}{aft:Array Edge}{g:Option (Nat × Bool)}{f:Operand}{args:List Operand}{ts:List TypeId}
theorem qcX(h:qas (qao (ev s) f args) (λq=>(qam all s ⟨dst, .call {callee:= .value f,args:=⟨args⟩,argTypes:=⟨ts⟩},ty,pos,aft,g⟩=U V/\fnOk P q.1=V)/\
   qeM P q.1 (qbw P ts q.2) (look (l++h0.m)) nx λc W=> ∀n,nx<=n->Q (.panic c) ⟨N, [],d,n,W++l⟩) False):
  qfa P h0 (λ_=>True) Q all ⟨dst, .call {callee:= .value f,args:=⟨args⟩,argTypes:=⟨ts⟩},ty,pos,aft,g⟩ ⟨N,s,d,nx,l⟩:=by
 cases e:qao (ev s) f args with
 | none=>rw[e] at h;exact h.elim
 | some q=>
   rw[e] at h;obtain⟨b,R,c,j,i,k,m,p⟩:=h.2;exact⟨f,args,ts,q,rfl,e,h.1.1,h.1.2,b,R,c,j,i,k,m,λW t n v _=>p W t n v⟩
end
attribute [go_sem] wchk
end Go.Idl
namespace Go.Idl
variable{P:Program}{h0:IH}
def qnc{F n}{o:Oper}{a next b Q f r}(h:o.uponIn F n P a next Q r)(g: ∀a w,next a w->b a w)(j: ∀e a w,Q e a w->f e a w):o.uponIn F n P a b f r:=by
 have l:LetsOut Q->LetsOut f:=λ⟨a,w,q⟩=>⟨a,w,j _ _ _ q⟩
 have k: ∀e w,(match(e:Ending),(w) with | .returned v,c=>next (a.put o.dst v) c | .panicked d,c=>Q (.panic d) a c | .outgrown,_=>LetsOut Q)->
   (match e,w with | .returned v,c=>b (a.put o.dst v) c | .panicked d,c=>f (.panic d) a c | .outgrown,_=>LetsOut f):=by
  grind
 unfold Oper.uponIn at h ⊢;split at h
 .simp_all
 .simp_all
 .simp_all
 .exact⟨h.1,h.2.mono k⟩
 .exact⟨h.1,h.2.mono λv w i=>g _ _ i⟩
 .exact⟨h.1,h.2.mono k⟩
 .simp_all
 omega
def qj8{F n b Q d}(f: ∀e a w,Q e a w->d e a w): ∀(l a w),wpListIn F n P b Q l a w->wpListIn F n P b d l a w:=by
 intro l;induction l with
 | nil=>exact λa w h=>f _ _ _ h
 | cons o l i=>
   intro a w h;simp[wpListIn] at h ⊢;split at h
   .rename_i c;rw[if_pos c];exact⟨h.1,qnc h.2 (λa w h=>i a w h) f⟩
   grind
def IOps.mono{b l S Q f}(h:IOps P h0 b l S Q)(g: ∀e S,Q e S->f e S):IOps P h0 b l S f:=
 λM0 c M a i j r d=>qj8 (λ_ _ _ ⟨k,m,n,o,p,q⟩=>⟨k,m,n,o,p,g _ _ q⟩) _ _ _ (h M0 c M a i j r d)
def qks(P:Program)(f:Func)(h:IH)(K:Nat->List (Nat × IBlk)->Prop):Exit->qab->Prop
 | .normal,S=>S.d= []/\h.nx<=S.nx/\(ires P S (S.l++h.m) f.results.toList).isSome=V/\K S.nx (ddp S.l)
 | .ret,S=>S.d= []/\h.nx<=S.nx/\(ires P S (S.l++h.m) f.results.toList).isSome=V/\K S.nx (ddp S.l)
 | _,_=>False
section
variable{fnc:Func}{h:IH}{K:Nat->List (Nat × IBlk)->Prop}{N:Nat}{s:List (Nat × IV)}{d:List IDef}{nx:Nat}{l:List (Nat × IBlk)}
@[go_sem ↓] theorem qsI:qks P fnc h K .normal ⟨N,s,d,nx,l⟩=(d= []/\h.nx<=nx/\(ires P ⟨N,s,d,nx,l⟩ (l++h.m) fnc.results.toList).isSome=V/\K nx (ddp l)):=(rfl)
end
def leaves_rec(n:Nat){fn fnc:Func}{Q:IEnd->Nat->List (Nat × IBlk)->Prop}{N:Nat}{s:List (Nat × IV)}{d q:List IDef}{nx:Nat}{l:List (Nat × IBlk)}{f:FuncId}{cap args:List IV}{u:qaL}
  {id:Nat} {dst:Option Tmp} {ts:Array TypeId} {ty:TypeId} {j:String} {k:Array Edge} {b:List Oper} {C:Code} (E:fnOk P f=true) (F:P.funcs[f]? =some fnc)
  (G:fnc.body=some (.seq (.region id ⟨⟨dst, .call {callee:= .builtin .recover,args:=#[],argTypes:=ts},ty,j,k,none⟩::b⟩ false) C)) (m:(args++cap).length<=fnc.ntmps) (L:dOk fnc.ntmps dst=true)
  (h:vc P ⟨nx,l++h0.m⟩ (qks P fnc ⟨nx,l++h0.m⟩ λg l'=>qbg P fn h0 Q ⟨N,s,d,g,l'++l⟩ q (qce (qaY u).2)) n
   (.ops ⟨⟨dst, .call {callee:= .builtin .recover,args:=#[],argTypes:=ts},ty,j,k,none⟩::b⟩ b:: .code C:: [])
   ⟨fnc.ntmps,putS dst (.p (.sc (qaY u).1)) (enum 0 (args++cap)), [],nx, []⟩) (t:b.all ncOp=true:=by rfl):qbg P fn h0 Q ⟨N,s,d,nx,l⟩ (⟨.func f,cap,args⟩::q) u:=by
 refine leaves_call E (icallD_of F G m (qer (qdO (by cases dst<;>simp_all[dOk,qaC,start]) (λS H=>?_) t ?_)))
 .cases H
 .have c: ∀e i,qks P fnc ⟨nx,l++h0.m⟩ (λg l'=>qbg P fn h0 Q ⟨N,s,d,g,l'++l⟩ q (qce (qaY u).2)) e i->
    FinD P fnc ⟨nx,l++h0.m⟩ (λr D g l'=>qbg P fn h0 Q {(⟨N,s,d,nx,l⟩:qab) with nx:=g,l:=l'++l} q (match r with | .ret _=>qce D | .pan v=>qe0 D v)) e (qaY u).2 i:=by
   intro e i a;cases e with
   | normal=>
     obtain⟨o,w,y,z⟩:=a;obtain⟨x,A⟩:=Option.isSome_iff_exists.1 y;exact .norm _ i x _ _ o A (qct o w) z
   | ret=>
     obtain⟨o,w,y,z⟩:=a;obtain⟨x,A⟩:=Option.isSome_iff_exists.1 y;exact .ret _ i x _ _ o A (qct o w) z
   | exit id=>exact a.elim
   | goto l=>exact a.elim
   | panic v=>exact a.elim
   | outgrown=>exact a.elim
  have B:=vc_sound _ _ _ _ h;have I:(start fnc.ntmps (args++cap) ⟨nx,l++h0.m⟩).put dst (.p (.sc (qaY u).1)) (start fnc.ntmps (args++cap) ⟨nx,l++h0.m⟩).nx []=⟨fnc.ntmps,putS dst (.p (.sc (qaY u).1)) (enum 0 (args++cap)), [],nx, []⟩:=by
   rw[qa6];rfl
  rw[I];refine IOps.mono B λe i a=>?_;cases e with
  | normal=>exact qdB (qbi.mono a λe S a=>c e S a)
  | ret=>exact c _ i a
  | exit id=>exact c _ i a
  | goto l=>exact c _ i a
  | panic v=>exact c _ i a
  | outgrown=>exact c _ i a
@[go_sem] def qtc{v o}:qaY (.pan ({v:=v,recovered:=false}::o))=(v, .pan ({v:=v,recovered:=true}::o)):=(rfl)
@[go_sem] def qtd:qaY .ret=(.nilIface, .ret):=(rfl)
@[go_sem] def qsZ:qce .ret= .ret:=(rfl)
@[go_sem] def qsY{v}:qce (.pan [{v:=v,recovered:=true}])= .ret:=(rfl)
attribute [go_sem] ddp
def endX_of{k N nx m l s b c}(W)(e:b W)(a:k<=nx)(f:qbR k (W.map (·.1)) (l.map (·.1)))
  (g:qd0 (keepB k []) (look (l++m)) W) (i:qbp k W):qka k m b c (.panic c) ⟨N,s, [],nx,l⟩:=⟨rfl,rfl,a,W,f,g,i,e⟩
def ex_key{a e:Type}{b c:a}{x:e}:(∃y,(b,y)=(c,x))=(b=c):=wb
attribute [go_sem] ex_key exists_or implies_true
def qe5{Q k S}:vc P h0 Q 0 k S=IRun P h0 k S Q:=wv
@[go_sem] def mk_all{l:List Value}{p}:Array.all ⟨l⟩ p=l.all p:=wb
attribute [go_sem] List.all_cons List.all_nil Option.bind_some
end Go.Idl
