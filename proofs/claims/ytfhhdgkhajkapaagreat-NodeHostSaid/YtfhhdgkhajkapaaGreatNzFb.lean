/- Facts leant on. -/
import Derived.Test.YtfhhdgkhajkapaaGreatIdGr
set_option linter.all false
open True renaming intro->Ka
open List renaming range'->Kb,map_cons->Kc,filter->Kd,map_nil->Ke,map->Kf,length_cons->Kg,drop_zero->Kh,take_of_length_le->Ki,map_congr_left->Kj,mem_append_right->Kk,map_append->Kl,mem_append->Km
open Nat renaming zero_le->Kn,lt_or_ge->Ko
open Option renaming none->U,some->Y
namespace Go.Idl
variable{P:Program}{h0:IH}
def qaq{a:Type}:Nat->List (Nat × List a)->List (List IV)
 | _, []=> []
 | k,x::r=> [.ref k x.1 0 x.2.length]::qaq (k+1) r
def famB{a:Type}(sz:Nat)(e:a->List PV)(xs:List (Nat × List a)):List IBlk:=xs.map λx=> .arr sz x.1 (ir e x.2)
def qaj{a:Type}(l:List (List a)):List (Nat × List a):=l.map λx=>(0,x)
section
variable{β:Type}{k k' n sz g:Nat}{e:β->List PV}{xs:List (Nat × List β)}{ρ:Nat->Nat}
theorem qcv: ∀ {xs:List (Nat × List β)} {k},(qaq k xs).length=xs.length
 | [],_=>rfl
 | x::r,k=>by simp[qaq,qcv]
theorem qc7: ∀ {xs:List (Nat × List β)} {k i:Nat} (h),(qaq k xs)[i]? =Y [.ref (k+i) xs[i].1 0 xs[i].2.length]
 | x::r,k,0,_=>rfl
 | x::r,k,i+1,h=>by
   have:=qc7 (xs:=r) (k:=k+1) (i:=i) wg
   grind[qaq]
theorem qgE: ∀ {xs k i} {x:Nat × List β} (_:i < xs.length),(qaq k xs).set i [.ref (k+i) x.1 0 x.2.length]=qaq k (xs.set i x)
 | y::r,k,0,x,_=>rfl
 | y::r,k,i+1,x,h=>by
   have:=qgE (xs:=r) (k:=k+1) (i:=i) (x:=x) wg
   grind[qaq]
theorem qfI: ∀ {xs k} {x:Nat × List β},qaq k (xs++ [x])=qaq k xs++ [[.ref (k+xs.length) x.1 0 x.2.length]]
 | [],k,x=>rfl
 | y::r,k,x=>by
   simp[qaq,qfI (xs:=r)]
   grind
theorem qcG: ∀ {xs:List (Nat × List β)} {k k'},(∀i,i < xs.length->ρ (k+i)=k'+i)->rnRw ρ (qaq k xs)=qaq k' xs
 | [],_,_,_=>rfl
 | x::r,k,k',h=>by
   have:=qcG (xs:=r) (k:=k+1) (k':=k'+1) λi a=>by
    have:=h (i+1) wg
    grind
   simp[qaq,qp7,this,rnms,rnm];rw[show ρ k=k' from h 0 wb]
theorem qbA: ∀ {xs:List (Nat × List β)} {k},(k+xs.length<=n)->qbj n (qaq k xs)
 | [],_,_=>trivial
 | x::r,k,h=>by
   simp at h;exact⟨by simp[bels,bel];omega,qbA wa⟩
theorem qee:(famB sz e xs).length=xs.length:=by simp[famB]
theorem qqE{i:Nat}(h):(famB sz e xs)[i]? =Y (.arr sz xs[i].1 (ir e xs[i].2)):=by simp[famB,h]
theorem qf7: ∀ {L k p},p∈qak k L-> ∃i,∃h:i < L.length,p.1=k+i/\p.2=L[i]
 | [],k,p,h=>by cases h
 | x::L,k,p,h=>by
   simp[qak] at h;rcases h with rfl | h
   .simp
   .obtain⟨i,a,c,b⟩:=qf7 h;exact⟨i+1,wg,wa,wg⟩
theorem qmY{L k i r}(h):look (qak k L++r) (k+i)=Y L[i]:=by rw[qae,qdd];grind
theorem qa4{k i r}(h):look (qak k (famB sz e xs)++r) (k+i)=Y (.arr sz xs[i].1 (ir e xs[i].2)):=by rw[qae,qdd,if_pos wa,Nat.add_sub_cancel_left,qqE h]
theorem qlF{L k b r}(h:b < k\/k+L.length<=b):look (qak k L++r) b=look r b:=by grind[qae,qdd]
theorem qa2{b r}(h:b < k\/k+xs.length<=b):look (qak k (famB sz e xs)++r) b=look r b:=qlF (by rw[qee];omega)
@[go_sem] theorem qs7{L b r q}:look ((qak k L++r)++q) b=look (qak k L++(r++q)) b:=wb
theorem qbb(l:List (List β)):(qaj l).length=l.length:=by simp[qaj]
theorem qhl(l)(x:List β):qaj (l++ [x])=qaj l++ [(0,x)]:=by simp[qaj]
theorem qe2(h: ∀i,i < xs.length->ρ (k+i)=k'+i):rnL ρ (qak k (famB sz e xs))=qak k' (famB sz e xs):=by
 induction xs generalizing k k' with
 | nil=>rfl
 | cons x r a=>
   have:=a (k:=k+1) (k':=k'+1) λi b=>by
    have:=h (i+1) wg
    grind
   simp only[famB,Kc,qak,qrn,qss,qst] at this ⊢;rw[this,show ρ k=k' from h 0 wb]
section
variable{nx a b:Nat}
@[go_sem] theorem rnL_fam0:rnL (ridx [] nx) (qak k (famB sz e xs))=qak (nx+k) (famB sz e xs):=qe2 λi _=>by simp[ridx];omega
@[go_sem] theorem rnL_fam1:rnL (ridx [a] nx) (qak (k+1) (famB sz e xs))=qak (nx+k) (famB sz e xs):=qe2 λi _=>by rw[qcw wg];grind
@[go_sem] theorem rnRw_fam0:rnRw (ridx [] nx) (qaq k xs)=qaq (nx+k) xs:=qcG λi _=>by simp[ridx];omega
@[go_sem] theorem rnRw_fam1:rnRw (ridx [a] nx) (qaq (k+1) xs)=qaq (nx+k) xs:=qcG λi _=>by rw[qcw wg];grind
end
@[go_sem] theorem rnL_app{l m}:rnL ρ (l++m)=rnL ρ l++rnL ρ m:=by simp[rnL]
theorem qhU{l m}:qbp n (l++m)↔qbp n l/\qbp n m:=by
 induction l with
 | nil=>simp[qbp]
 | cons p l i=>simp_all[qbp,and_assoc]
theorem qfb(h:k+xs.length<=n):qbp n (qak k (famB sz e xs)):=by
 induction xs generalizing k with
 | nil=>trivial
 | cons x r i=>
   simp at h;refine⟨?_,?_,i wa⟩
   .omega
   simp_all[qfe,qdZ]
theorem qjm{W c}(h: ∀i,k<=i->i < k+c->(look W i).isSome=true):hasAll W k c:=by
 induction c with
 | zero=>trivial
 | succ c d=>exact⟨h _ wa wa,d λi f j=>h i f wa⟩
theorem qhT:qcb n (famB sz e xs):=by
 induction xs with
 | nil=>trivial
 | cons x r i=>
   refine⟨?_,i⟩;simp_all[qfe,qdZ]
end
def qgc{L k b}(h:b < k\/k+L.length<=b):Kd (λq:Nat × IBlk=>q.fst != b) (qak k L)=qak k L:=by
 rw[List.filter_eq_self];intro p c;obtain⟨i,d,e,_⟩:=qf7 c
 grind
def qje: ∀ {L k},ddp (qak k L)=qak k L
 | [],_=>rfl
 | x::L,k=>by
   show(k,x)::Kd (λq:Nat × IBlk=>q.fst != k) (ddp (qak (k+1) L))=_;rw[qje,qgc (.inl wa)];rfl
section
variable{β:Type}{k b sz:Nat}{e:β->List PV}{xs:List (Nat × List β)}
@[go_sem] theorem ddp_fam:ddp (qak k (famB sz e xs))=qak k (famB sz e xs):=qje
@[go_sem] theorem qs6(h:b < k\/k+xs.length<=b):Kd (λq:Nat × IBlk=>q.fst != b) (qak k (famB sz e xs))=qak k (famB sz e xs):=qgc (by rw[qee];omega)
end
section
variable{S:qab}{m:List (Nat × IBlk)}{ids:List Nat}{nx nx0 k:Nat}{L:List IBlk}{r l':List (Nat × IBlk)}
theorem qhj(h: ∀i,∀f:i < L.length,∃z,look (S.l++m) (k+i)=Y z/\fwB (look (S.l++m)) ids z L[i])(c:nx=S.nx\/k+L.length<=nx/\qcb nx L)(l:fblksIn S m ids nx r):fblksIn S m ids nx (qak k L++r):=by
 induction L generalizing k with
 | nil=>exact l
 | cons x L o=>
   have p:=h 0 wb;obtain⟨z,j,q⟩:=p;refine⟨?_,?_,o (k:=k+1) (λi f=>?_) ?_⟩
   .rw[Nat.add_zero] at j;rw[j];exact q
   .rcases c with c | ⟨c,d⟩
    .omega
    .simp[Kg] at c;exact .inr ⟨wa,d.1⟩
   .have:=h (i+1) wn
    grind
   .rcases c with c | ⟨c,d⟩
    .omega
    .simp[Kg] at c;exact .inr ⟨wa,d.2⟩
theorem qbW{β sz}{e:β->List PV}{xs}(c:nx=S.nx\/k+xs.length<=nx)(h: ∀i,∀f:i < xs.length,look (S.l++m) (k+i)=Y (.arr sz xs[i].1 (ir e xs[i].2))):
  fblksIn S m ids nx (qak k (famB sz e xs)):=by
 have:=qhj (S:=S) (m:=m) (ids:=ids) (nx:=nx) (k:=k) (L:=famB sz e xs) (r:= []) (λi f=>?_) ?_ trivial
 .grind
 .have d:=by rwa[qee] at f
  refine⟨_,h i d,?_⟩;have:(famB sz e xs)[i]= .arr sz xs[i].1 (ir e xs[i].2):=by simp[famB]
  rw[this];exact⟨rfl,rfl, .inl rfl⟩
 .rcases c with c | c
  .omega
  .exact .inr ⟨by rw[qee];omega,qhT⟩
theorem qf8{β sz e}{xs:List (Nat × List β)}{i x}(d:nx=S.nx\/k+xs.length<=nx)(h:look (S.l++m) (k+i)=Y (.arr sz x.1 (ir e x.2)))
  (f: ∀j,∀c:j < xs.length,¬j=i->look (S.l++m) (k+j)=Y (.arr sz xs[j].1 (ir e xs[j].2))):fblksIn S m ids nx (qak k (famB sz e (xs.set i x))):=by
 refine qbW wg λj c=>?_
 grind
@[go_sem] theorem qoH: ∀ {l' r},qdX 0 l' r=True
  | _, []=>rfl
  | _,(_,_)::_=>eq_true ⟨.inl (Kn _),of_eq_true qoH⟩
theorem qpT(h:nx0<=k\/ ∀i,i < L.length->nx0<=k+i\/ ∃c,(k+i,c)∈l')(d:qdX nx0 l' r):qdX nx0 l' (qak k L++r):=by
 induction L generalizing k with
 | nil=>exact d
 | cons x L f=>
   refine⟨?_,f (k:=k+1) ?_⟩
   .rcases h with h | h
    .omega
    .simpa using h 0 wb
   .rcases h with h | h
    .omega
    .refine .inr λi j=>?_;have:=h (i+1) wg
     grind
theorem qqI{G}(b):fwB G ids b b:=by
 cases b with
 | arr sz g c=>exact⟨rfl,rfl, .inl rfl⟩
 | mp d=>rfl
 | ob k v=>rfl
theorem qlr{ids}(f: ∀b,b∈ids->nx0<=b)(i: ∀p∈l',p.1 ∉ ids):gone nx0 l' ids:=by
 induction ids with
 | nil=>trivial
 | cons b ids j=>
   refine⟨⟨f b wb,?_⟩,j (λc h=>f c wg) λp d h=>i p d wg⟩
   grind
theorem qpg{w q}(h:nx0<=k)(c:qbR nx0 w q):qbR nx0 w ((qak k L).map (·.1)++q):=by
 induction L generalizing k with
 | nil=>exact c
 | cons x L i=>exact⟨.inl h,i (k:=k+1) wa⟩
@[go_sem] theorem qoj: ∀ {l},geAll 0 l=True
  | []=>rfl
  | _::_=>eq_true ⟨Kn _,of_eq_true qoj⟩
@[go_sem] theorem qob: ∀ {w l},qbR 0 w l=True
  | _, []=>rfl
  | _,_::_=>eq_true ⟨.inl (Kn _),of_eq_true qob⟩
theorem qh6{β:Type}{sz k:Nat}{e:β->List PV}{j:List β->List PV}{G:Nat->Option IBlk}{xs:List (Nat × List β)}(t: ∀l,j l= [.imm sz (pr e l)])
  (h: ∀i,∀d:i < xs.length,k+i∈ids/\G (k+i)=Y (.arr sz xs[i].1 (ir e xs[i].2))):fwRs G ids (qaq k xs) (ir j (xs.map (·.2))):=by
 refine .inr ⟨by rw[qcv];simp[ir],λi r z o s=>?_⟩;have d:i < xs.length:=by have:=qad o;rwa[qcv] at this
 obtain⟨u,v⟩:=h i d;rw[qc7 d] at o;cases o;have w:(ir j (xs.map (·.2)))[i]? =Y [.p (.imm sz (pr e xs[i].2))]:=by
  simp_all[ir,List.getElem?_map,Option.map_some,Kc,Ke]
 rw[w] at s;cases s;refine⟨⟨u,?_⟩,rfl⟩;have x:pvs2 (ir e xs[i].2)=Y (pr e xs[i].2):=by
  have q: ∀l:List β,pvs2 (ir e l)=Y (pr e l):=by
   intro l;induction l with
   | nil=>rfl
   | cons a l f=>
     have: ∀c:List PV,pvs (c.map .p)=Y c:=by
      intro c;induction c with
      | nil=>rfl
      | cons p c f=>simp[pvs,f]
     simp_all[ir,Kc,pvs2,pr]
  simp_all
 have y:((ir e xs[i].2).drop 0).take xs[i].2.length=ir e xs[i].2:=by
  simp_all[Kh,Ki,ir]
 simp only[frz,v,if_true,y,x,Option.map_some,qaQ];exact wk_refl _
end
section
variable{fn:Func}{kk:Nat}{m:List (Nat × IBlk)}{c:Nat}{x:IV}{W:List (Nat × IBlk)}{N:Nat}{s:List (Nat × IV)}{nx:Nat}{l:List (Nat × IBlk)}
def shf(k s i:Nat):Nat:=if i < k then i else i+s
@[go_sem] theorem shf_0{s i}:shf 0 s i=i+s:=wv
@[go_sem] theorem shf_10{s}:shf 1 s 0=0:=rfl
@[go_sem] theorem shf_11{s i}:shf 1 s (i+1)=i+1+s:=wv
theorem qoR{i t}(h:i < kk+c):rsel kk (Kb (kk+t) c) i=shf kk t i:=by grind[rsel,shf]
@[go_sem] theorem rnL_shf{β sz t k d}{e:β->List PV}{xs}(h:d<=k):rnL (shf d t) (qak k (famB sz e xs))=qak (k+t) (famB sz e xs):=qe2 λi _=>by
  grind[shf]
@[go_sem] theorem rnRw_shf{β}{t k d}{xs:List (Nat × List β)}(h:d<=k):rnRw (shf d t) (qaq k xs)=qaq (k+t) xs:=qcG λi _=>by
  grind[shf]
theorem qc9(t:Nat){e:Exit}(E:e= .normal\/e= .ret)(f:kk<=nx)(z:ires P ⟨N,s, [],nx,l⟩ (l++m) fn.results.toList=Y (rnm (shf kk t) x))(A:bel (kk+c) x)(w:qbp (kk+c) W)
  (y:qbv (look (l++m)) (rnL (shf kk t) W)) (u:qbR kk ((rnL (shf kk t) W).map (·.1)) (l.map (·.1))):EndG P fn kk m c x W e ⟨N,s, [],nx,l⟩:=by
 have v: ∀i,i < kk+c->rsel kk (Kb (kk+t) c) i=shf kk t i:=λi u=>qoR u
 have j:rnL (rsel kk (Kb (kk+t) c)) W=rnL (shf kk t) W:=by
  have h:=qb5 w;refine Kj λp B=>?_;obtain⟨F,G⟩:=h p B;show(_,_)=(_,_);rw[v _ F,qjG (K:=(· < kk+c)) v (qco G)]
 have o:rnm (rsel kk (Kb (kk+t) c)) x=rnm (shf kk t) x:=qgH (K:=(· < kk+c)) v _ (qdj x A);have d:endG P fn kk m c x W (Kb (kk+t) c) ⟨N,s, [],nx,l⟩:=by
  rw[qrP,z,qaQ,o,j];refine⟨fzv_refl _,?_,u⟩;clear j u w;generalize rnL (shf kk t) W=M at *;induction M with
  | nil=>trivial
  | cons p M q=>
    refine⟨?_,q y.2⟩;rw[y.1,qaQ];cases B:p.2 with
    | arr sz g C=>exact⟨rfl,rfl,qaB _⟩
    | mp H=>exact qjj _
    | ob k I=>exact⟨rfl,rfl⟩
 have D:(Kb (kk+t) c).length=c/\geAll kk (Kb (kk+t) c)/\qal (Kb (kk+t) c):=by
  refine⟨List.length_range' ..,?_,?_⟩
  .clear d o j v u y w A z f;suffices h: ∀c a,kk<=a->geAll kk (Kb a c) from h c (kk+t) (Nat.le_add_right _ _)
   intro c;induction c with
   | zero=>intro a _;trivial
   | succ c q=>intro a h;exact⟨h,q (a+1) wa⟩
  .clear d o j v u y w A z f;generalize kk+t=a;induction c generalizing a with
   | zero=>trivial
   | succ c q=>
     refine⟨?_,q (a+1)⟩;suffices h: ∀c b,a < b->qal.nin a (Kb b c) from h c (a+1) wa
     intro c;induction c with
     | zero=>intro b _;trivial
     | succ c q=>intro b h;exact⟨wa,q (b+1) wa⟩
 rcases E with rfl | rfl
 .exact⟨rfl,f,_,D,d⟩
 .exact⟨rfl,f,_,D,d⟩
theorem qqe{k}:shf k 0=id:=by funext i;simp[shf]
theorem qoZ{e}(f:e= .normal\/e= .ret)(d:kk<=nx)(i:ires P ⟨N,s, [],nx,l⟩ (l++m) fn.results.toList=Y x)(j:bel (kk+c) x)(o:qbp (kk+c) W)
  (q:qbv (look (l++m)) W) (t:qbR kk (W.map (·.1)) (l.map (·.1))):EndG P fn kk m c x W e ⟨N,s, [],nx,l⟩:=by
 have h:rnL (shf kk 0) W=W:=by
  rw[qqe];exact(Kj λp _=>by rw[qiy];rfl).trans (List.map_id' _)
 refine qc9 0 f d (by rw[i,qqe,qiz]) j o wg wg
theorem qmK{G a b}:qbv G (a++b)↔qbv G a/\qbv G b:=by
 induction a with
 | nil=>simp[qbv]
 | cons p l i=>simp_all[qbv,and_assoc]
theorem qfY{G L k}(h: ∀i,∀d:i < L.length,G (k+i)=Y L[i]):qbv G (qak k L):=by
 induction L generalizing k with
 | nil=>trivial
 | cons x L f=>
   refine⟨h 0 wb,f (k:=k+1) λi d=>?_⟩;have:=h (i+1) wg
   grind
end
def qdb{β sz k}{e:β->List PV}{xs G}(h: ∀i,∀f:i < xs.length,G (k+i)=Y (.arr sz xs[i].1 (ir e xs[i].2))):qbv G (qak k (famB sz e xs)):=
 qfY λi f=>by
  grind[famB]
section
variable{f:FuncId}{args:List IV}{c:Nat}{x:IV}{W:List (Nat × IBlk)}
theorem PG.icallN(h:PG P f args [] c x W){hp:IH}(d:Nat->Nat){o:Nat}(u: ∀i j,i < c->j < c->d i=d j->i=j)(w: ∀i,i < c->hp.nx<=d i/\d i < o)(D:hp.nx<=o):
  qa5 P f (rnms d args) hp λr nx l=>r= .ret (rnm d x)/\nx=o/\l=rnL d W:=by
 intro M vs E Q T;have F:=h.hin;have A:=h.hzs;have G:=h.hW;have t:=h.call;have B:=h.hx;simp only[List.length_nil,Nat.zero_add] at A G B;refine(qhx (R:= []) (c:=c) (ρ:=d) (Ψ:=λK V=>K= .ret x/\V=W) (by simpa using u) F A (t.mono λr n l ⟨X,O,z,h3⟩=>⟨X, .ret x,W,O,by simpa using G,h3,?_,?_,rfl,rfl⟩) E.rel (λi a0 hb=>by simp at hb)
  (λj _ hj=>λhA=>by have:=E.A _ hA;grind) (by rw[Q,qaG]) (λi y v hy hv=>T i _ v (qbK hy) hv)).mono ?_
 .intro M e C;rw[z] at C;exact C
 .simp_all
 .rintro e w' ⟨M',K,V,e1,st,H,hH,C,_,rfl,rfl⟩;refine⟨M',o,rnL d V, .ret (rnm d x),e1,st,qft E H D hH λp I=>?_,C,rfl,rfl,rfl⟩;obtain⟨q,hq,e⟩:=qcY I;rw[e];have O:=(G.low q hq).1;simp_all
variable{Q:Exit->qab->Prop}{k:List It}{all:Array Oper}{r:List Oper}{dst:Option Tmp}{ty:TypeId}{pos:String}{aft:Array Edge}{N:Nat}{s:List (Nat × IV)}{d:List IDef}{nx:Nat}{l:List (Nat × IBlk)}
 {g:Option (Nat × Bool)} {fo:Operand} {asl:List Operand} {ts:List TypeId}
theorem at_gN(n p o)(hp:PG P f args [] c x W)(t: ∀i j,i < c->j < c->p i=p j->i=j)(u: ∀i,i < c->nx<=p i/\p i < o)(v:nx<=o)
  (h:qas (qao (ev s) fo asl) (λq=>(qam all s ⟨dst, .call {callee:= .value fo,args:=⟨asl⟩,argTypes:=⟨ts⟩},ty,pos,aft,g⟩=Y true/\fnOk P q.1=true/\dOk N dst=true)/\
   q.1=f/\wks q.2 (rnms p args)/\vc P h0 Q n (.ops all r::k) ⟨N,putS dst (rnm p x) s,d,o,rnL p W++l⟩) False):
  IRun P h0 (.ops all (⟨dst, .call {callee:= .value fo,args:=⟨asl⟩,argTypes:=⟨ts⟩},ty,pos,aft,g⟩::r)::k) ⟨N,s,d,nx,l⟩ Q:=by
 cases w:qao (ev s) fo asl with
 | none=>rw[w] at h;exact h.elim
 | some q=>
   rw[w] at h;obtain⟨⟨y,z,D⟩,A,B,C⟩:=h;subst A;refine iops_call (S:=⟨N,s,d,nx,l⟩) rfl y w z wq ((qdT (hp.icallN (hp:=⟨nx,l++h0.m⟩) p t u v) B).mono ?_);rintro e o l' ⟨rfl,rfl,rfl⟩;exact vc_sound Q n _ _ C
end
end Go.Idl
/- Lists of numbers of their own, all of them held. -/
namespace Go.Proofs.NO
open Go Go.Idl Go.Proofs Go.Proofs.Tryz
set_option maxHeartbeats 0
set_option maxRecDepth 100000
def qos(l:List (List Int))(hl: ∀x∈l,x.length<=1000000)(hn:l.length<=1000000){c:Nat}(hc:c=1+l.length):
  PG prog 285 [sci .i64 l.length, .clo (.func 286) [] [.ptr 0 0 0 0]] [cL l] c (.ref 1 l.length 0 l.length)
   ((1, .arr 1 l.length (qaq 2 (qaj l)))::(qak 2 (famB 1 eI (qaj l))++ [(0,cL [])])):=by
 refine pg_of 200 (fn:=f285) func285 rfl (by simp[ntmps285]) 1 rfl ?_ ?_ ?_ ?_ ?_ λhs=>?_
 .exact zT
 .exact zT
 .refine⟨by show 1 < _;omega,?_,qhU.2 ⟨qfb wO,?_⟩⟩
  .refine zV ?_;exact qbA wO
  .refine zV ?_;omega
 .refine qjm λi h1 h2=>?_;rcases Ko i 2 with h | h
  .obtain rfl:i=1:=wa
   rfl
  .obtain⟨j,rfl⟩: ∃j,i=2+j:=⟨i - 2,wa⟩;show(if 1=2+j then _ else Idl.look _ _:Option IBlk).isSome=true;rw[if_neg wa,qa4 wO];rfl
 .refine zV ?_;omega
 refine zV ?_;refine walk_own 5 1 trivial rfl (.inr rfl) ?_;refine zM [1,5,6,7] ?_;refine qac 200 200 (λi:Nat=>i<=l.length)
  (λi=>⟨16, [(1, .clo (.func 286) [] [.ptr 0 0 0 0]),(5, .ref 1 i 0 i),(6,sci .i64 l.length),(7,sci .i64 i)], [],2+i,
   (1, .arr 1 i (qaq 2 (qaj (l.take i))))::(qak 2 (famB 1 eI (qaj (l.take i)))++ [(0,cL (l.drop i))])⟩) (λi=>l.length - i) 0 [] ?_ ?_ ?_
 .simp
 .constructor<;>(try simp(disch:=omega) only[go_sem,simprocAttr,zD,zE,Int.natCast_zero,List.take_zero,qaj,Ke,qaq,famB,qak,List.nil_append,Kh])
 .intro i h1;have htl:(qaj (l.take i)).length=i:=by rw[qbb,List.length_take];omega
  have hrl:(qaq 2 (qaj (l.take i))).length=i:=by rw[qcv,htl]
  have hrt:(qaq 2 (qaj (l.take i))).take i=qaq 2 (qaj (l.take i)):=Ki wa;refine zV ?_;by_cases hl':i < l.length
  .have e:l.drop i=l[i]::l.drop (i+1):=List.drop_eq_getElem_cons hl';have e2:qaj (l.take (i+1))=qaj (l.take i)++ [(0,l[i])]:=by rw[List.take_succ_eq_append_getElem hl',qhl]
   refine zS e ?_;(refine at_g 200 ?_;refine zW ?_;refine callG_of [0] (qp2 l[i] (l.drop (i+1)) (hl _ (List.getElem_mem hl')) (by rw[List.length_drop];omega)) (by simp(disch:=omega) only[go_sem,simprocAttr,zD,zE,qa2,htl]) ?_);refine zS (zQ @qa2 (zQ htl (zQ hrl hrt))) ?_;have e3:qaq 2 (qaj (l.take (i+1)))=qaq 2 (qaj (l.take i))++ [[.ref (2+i) 0 0 l[i].length]]:=by rw[e2,qfI,htl]
   have hfl:(famB 1 eI (qaj (l.take (i+1)))).length=i+1:=by rw[qee,e2,List.length_append,htl];rfl
   refine⟨i+1, [],hl',wa,?_⟩;rw[e3];constructor
   case blks=>
    refine zS (zQ @qa2 htl) ?_;refine⟨⟨wa,qbA vu⟩,?_⟩;refine qhj (λj hj=>?_) (.inr ⟨?_,qhT⟩) ?_
    .rw[hfl] at hj;have hg:(famB 1 eI (qaj (l.take (i+1))))[j]'(by rw[hfl];exact hj)= .arr 1 0 (ir eI l[j]):=by
      simp[famB,qaj]
     rw[hg];refine⟨_,?_,qqI _⟩;by_cases hji:j=i
     .subst hji;exact zU
     .have hj2:j < (qaj (l.take i)).length:=wa
      have hx:(qaj (l.take i))[j]=(0,l[j]):=by simp[qaj]
      refine zP ?_;rw[qa4 hj2,hx]
    .rw[hfl];show 2+(i+1)<=2+(i+1);exact Nat.le_refl _
    .refine zS (zQ @qa2 htl) ?_;omega
   case others=>
    refine zP ?_;refine⟨.inl wa, .inl wa,⟨_,Kk _ (List.mem_singleton.2 rfl)⟩,qpT (.inl wh) ⟨.inr ⟨_,List.mem_cons_of_mem _ (Kk _ (List.mem_singleton.2 rfl))⟩,trivial⟩⟩
   all_goals(((try refine zO ?_);(try with_reducible exact Ka));try omega)
  .obtain rfl:i=l.length:=wa
   have e:l.drop l.length= []:=List.drop_length;have e2:l.take l.length=l:=List.take_length;rw[e,e2];rw[e2] at htl hrl hrt;refine zP ?_;refine qoZ (.inr rfl) wa (by((try refine zO ?_);(try with_reducible exact Ka))) (by((try refine zO ?_);(try with_reducible exact Ka));omega) ⟨by show 1 < _;omega,?_,qhU.2 ⟨qfb vu,?_⟩⟩ ?_ ?_
   .refine zV ?_;exact qbA vu
   .refine zV ?_;omega
   .refine⟨by((try refine zO ?_);(try with_reducible exact Ka)),qmK.2 ⟨qfY λi hi=>?_,?_⟩⟩
    .exact zy @qmY
    .exact zy (zQ @qa2 htl)
   .refine zS @Kl.{0,0} ?_;refine qpg wh ?_;exact zy @Km.{0}
def qfC(l:List (List Int)){c:Nat}(hc:c=1+l.length){g n:Nat}:hasAll ((0,IBlk.arr 1 g (qaq n (qaj l)))::qak 1 (famB 1 eI (qaj l))) 0 c:=by
 refine qjm λi h1 h2=>?_;rcases Ko i 1 with h | h
 .obtain rfl:i=0:=wa
  rfl
 .obtain⟨j,rfl⟩: ∃j,i=1+j:=⟨i - 1,wa⟩;show(if 0=1+j then _ else Idl.look _ _:Option IBlk).isSome=true;rw[if_neg wa];have:=qa4 (sz:=1) (e:=eI) (k:=1) (r:= []) (xs:=qaj l) (i:=j) wO;rw[List.append_nil] at this;rw[this];rfl
def qcu(l:List (List Int)){c n g:Nat}(hc:c=1+l.length)(hn:0+c=n):qbp n ((0,IBlk.arr 1 g (qaq 1 (qaj l)))::qak 1 (famB 1 eI (qaj l))):=
 ⟨by show 0 < _;omega,by rw[qfe];exact qbA wO,qfb wO⟩
def qrh(l:List (List Int))(hl: ∀x∈l,x.length<=1000000)(hn:l.length<=1000000){c:Nat}(hc:c=1+l.length):
  PG prog 228 [lLs l] [] c (.ref 0 l.length 0 l.length) ((0, .arr 1 l.length (qaq 1 (qaj l)))::qak 1 (famB 1 eI (qaj l))):=by
 refine pg_of 200 (fn:=f228) func228 rfl (by simp[ntmps228]) 0 rfl (by((try refine zW ?_);(try with_reducible exact Ka))) (by((try refine zW ?_);(try with_reducible exact Ka))) (qcu l hc rfl) (qfC l hc) (by((try refine zW ?_);(try with_reducible exact Ka));omega) λhs=>?_;refine zV ?_;(refine at_g 200 ?_;refine zW ?_;refine callG_of [0] (qos l hl hn hc) (by simp(disch:=omega) only[go_sem,simprocAttr,zD,zE,qbb]) ?_;refine zV ?_);refine qc9 1 (.inr rfl) (Kn _) (by((try refine zW ?_);(try with_reducible exact Ka))) (by((try refine zW ?_);(try with_reducible exact Ka));omega) (qcu l hc rfl) ?_ ?_
 .refine zP ?_;refine qdb λi hi=>?_;exact zy @qa4
 .exact zT
def qej{l:List (List (Int × Int))}{i0 k i:Nat}:rnRw (rsel 0 [2,3]) (qav l i0 1 k i)=qav l i0 3 k i:=by
 unfold qav;simp only[go_sem];rfl
def qek{l:List (List (Int × Int))}{i0 k i:Nat}:rnRw (ridx [] 2) (qav l i0 1 k i)=qav l i0 3 k i:=by
 unfold qav;simp only[go_sem]
def qo8(p:Hs)(h:gHs p)(i0:Nat)(h0:i0 < p.inn.length):PG prog 170 [qe4 p] [] 2
  (.agg [sci .i64 p.node,sci .i64 p.state,sci .i64 p.steps,nil0, .ref 0 p.inn.length 0 p.inn.length,lLs p.out])
  [(0, .arr 1 p.inn.length (qav p.inn i0 1 p.inn[i0].length p.inn.length)),(1, .arr 2 0 (ir eII p.inn[i0]))]:=by
 obtain⟨h2,h3,h4,h5⟩:=h;refine zAh func170 0 λhs=>?_;(refine zM [1,2,75] ?_;refine zI [U,U,U,U,U,U,U,U,Y [0,1,2,3,4,5,9,10,12,13],U,U,Y [0,1,2,3,4,5,12,13],U,U,Y [0,1,2,3,4,5],U,Y []] ?_);refine zV ?_;(refine qf0 ?_;refine zW ?_;refine qaa (CloneI0_spec) zB ?_);refine zV ?_;(refine qbI ?_;refine zW ?_;refine callG_of [] (qlP p.inn i0 h0 h4 h2) zU ?_);refine zV ?_;(refine zF ?_;refine qaa (qex _ h5 h3) zB ?_);refine zS @qek ?_;refine⟨[2,3],wj,rfl,?_⟩;refine⟨⟨rfl,rfl,?_⟩,?_⟩
 .rw[qej];exact qaB _
 .exact⟨rfl,rfl,qaB _⟩
@[go_sem] def toldHs_eq{h:Hs}:qe4 h= .agg [sci .i64 h.node,sci .i64 h.state,sci .i64 h.steps,nil0,lMs h.inn,lLs h.out]:=(rfl)
def qol(h:Hs)(hg:gHs h)(i0:Nat)(h0:i0 < h.inn.length):PG prog 95 [lHs h] [] 2
  (.agg [sci .i64 h.node,sci .i64 h.state,sci .i64 h.steps, .ref 0 h.inn.length 0 h.inn.length,lLs h.out])
  [(0, .arr 1 h.inn.length (qav h.inn i0 1 h.inn[i0].length h.inn.length)),(1, .arr 2 0 (ir eII h.inn[i0]))]:=by
 refine zAh func95 0 λhs=>?_;(refine zG ?_;refine qaa (qd2 h) zB ?_);refine zV ?_;(refine at_gr 200 ?_;refine zW ?_;refine callG_of [] (qo8 h hg i0 h0) zU ?_);refine zS @qek ?_;refine⟨[2,3],wj,rfl,?_⟩;refine⟨⟨rfl,rfl,?_⟩,?_⟩
 .rw[qej];exact qaB _
 .exact⟨rfl,rfl,qaB _⟩
def fam_ne{k b0 c:Nat}{L:List IBlk}{x:IBlk}(hk:c < k)(hb: ¬b0=c): ∀b∈Kf (λx:Nat × IBlk=>x.fst) ((qak k L).reverse++ [(b0,x)]),¬b=c:=by
 intro b h;simp only[Kl,List.map_reverse,Km,List.mem_reverse,Kc,Ke,List.mem_singleton] at h;rcases h with h | rfl
 .obtain⟨p,hp,rfl⟩:=List.mem_map.1 h;obtain⟨i,_,e,_⟩:=qf7 hp;omega
 .exact hb
def qqr(p:Hs)(h:gHs p){c:Nat}(hc:c=1+p.out.length):PG prog 170 [qe4 p] [] c
  (.agg [sci .i64 p.node,sci .i64 p.state,sci .i64 p.steps,nil0,lMs p.inn, .ref 0 p.out.length 0 p.out.length])
  ((0, .arr 1 p.out.length (qaq 1 (qaj p.out)))::qak 1 (famB 1 eI (qaj p.out))):=by
 obtain⟨h2,h3,h4,h5⟩:=h;refine pg_of 200 (fn:=f170) func170 rfl (by simp[ntmps170]) 0 rfl (by((try refine zW ?_);(try with_reducible exact Ka))) (by((try refine zW ?_);(try with_reducible exact Ka))) (qcu _ hc rfl) (qfC _ hc) (by((try refine zW ?_);(try with_reducible exact Ka));omega) λhs=>?_;refine zV ?_;(refine zM [1,2,75] ?_;refine zI [U,U,U,U,U,U,U,U,Y [0,1,2,3,4,5,9,10,12,13],U,U,Y [0,1,2,3,4,5,12,13],U,U,Y [0,1,2,3,4,5],U,Y []] ?_);refine zV ?_;(refine qf0 ?_;refine zW ?_;refine qaa (CloneI0_spec) zB ?_);refine zV ?_;(refine zF ?_;refine qaa (qgz _ h4 h2) zB ?_);refine zV ?_;(refine qbI ?_;refine zW ?_;refine callG_of [] (qrh p.out h5 h3 hc) zU ?_);refine zS @qa2 ?_;refine⟨?_,?_⟩
 .have hw: ∀b∈Kf (λx:Nat × IBlk=>x.fst) ((qak 3 (famB 1 eI (qaj p.out))).reverse++ [(2,IBlk.arr 1 p.out.length (qaq 3 (qaj p.out)))]),¬b=0:=fam_ne wh wh;generalize Kf (λx:Nat × IBlk=>x.fst) ((qak 3 (famB 1 eI (qaj p.out))).reverse++ [(2,IBlk.arr 1 p.out.length (qaq 3 (qaj p.out)))])=w at hw ⊢;cases w with
  | nil=>trivial
  | cons b w=>exact⟨hw b wb,λa ha=>hw a (by simp[ha])⟩
 .refine qc9 2 (.inr rfl) (Kn _) (by((try refine zW ?_);(try with_reducible exact Ka))) (by((try refine zW ?_);(try with_reducible exact Ka));omega) (qcu _ hc rfl) ?_ ?_
  .refine zP ?_;refine qdb λi hi=>?_;exact zy @qa4
  .exact zT
def qpF(h:Hs)(hg:gHs h){c:Nat}(hc:c=1+h.out.length):PG prog 95 [lHs h] [] c
  (.agg [sci .i64 h.node,sci .i64 h.state,sci .i64 h.steps,lMs h.inn, .ref 0 h.out.length 0 h.out.length])
  ((0, .arr 1 h.out.length (qaq 1 (qaj h.out)))::qak 1 (famB 1 eI (qaj h.out))):=by
 refine pg_of 200 (fn:=f95) func95 rfl (by simp[ntmps95]) 0 rfl (by((try refine zW ?_);(try with_reducible exact Ka))) (by((try refine zW ?_);(try with_reducible exact Ka))) (qcu _ hc rfl) (qfC _ hc) (by((try refine zW ?_);(try with_reducible exact Ka));omega) λhs=>?_;refine zV ?_;(refine zG ?_;refine qaa (qd2 h) zB ?_);refine zV ?_;(refine at_gr 200 ?_;refine zW ?_;refine callG_of [] (qqr h hg hc) zU ?_);refine zS @qa2 ?_;refine qc9 2 (.inr rfl) (Kn _) (by((try refine zW ?_);(try with_reducible exact Ka))) (by((try refine zW ?_);(try with_reducible exact Ka));omega) (qcu _ hc rfl) ?_ ?_
 .refine zS @qa2 ?_;refine qdb λi hi=>?_;have hi':=hi;rw[qbb] at hi';exact zy @qa4
 .exact zT
end Go.Proofs.NO
