/- Facts leant on. -/
import Derived.Test.YtfhhdgkhajkapaaGreatIdRc
import Derived.Test.YtfhhdgkhajkapaaGreatIdRb
import Derived.Test.YtfhhdgkhajkapaaGreatNNo
set_option linter.all false
open Option renaming none->U
namespace Go.Idl
variable{P:Program}
def QG(k c:Nat)(x:IV)(W:List (Nat × IBlk))(r:IEnd)(_:Nat)(l:List (Nat × IBlk)):Prop:= ∃a,qiz k c a/\r= .ret (rnm a x)/\l=rnL a W
def qpV(P:Program)(fn:Func)(k:Nat)(m:List (Nat × IBlk))(c:Nat)(x:IV)(W:List (Nat × IBlk)):Exit->qab->Prop
 | .normal,S=>qbf P fn ⟨k,m⟩ (QG k c x W) S S.d .ret
 | .ret,S=>qbf P fn ⟨k,m⟩ (QG k c x W) S S.d .ret
 | .panic a,S=>qbf P fn ⟨k,m⟩ (QG k c x W) S S.d (.pan a)
 | _,_=>False
section
variable{fn:Func}{kk c:Nat}{m:List (Nat × IBlk)}{x:IV}{W:List (Nat × IBlk)}{ch:List PanicEntry}{N:Nat}{s:List (Nat × IV)}{d:List IDef}{nx:Nat}{l:List (Nat × IBlk)}
@[go_sem ↓] def EndDG_ret:qpV P fn kk m c x W .ret ⟨N,s,d,nx,l⟩=qbf P fn ⟨kk,m⟩ (QG kk c x W) ⟨N,s,d,nx,l⟩ d .ret:=(rfl)
@[go_sem ↓] def quZ:qpV P fn kk m c x W (.panic ch) ⟨N,s,d,nx,l⟩=qbf P fn ⟨kk,m⟩ (QG kk c x W) ⟨N,s,d,nx,l⟩ d (.pan ch):=(rfl)
end
def qc1{fn k c m x W N s d nx l}(i: ∀p∈W,p.1 < k+c)(news:List Nat)
  (h:EndG P fn k m c x W .ret ⟨N,s, [],nx,l⟩):qbf P fn ⟨k,m⟩ (QG k c x W) ⟨N,s,d,nx,l⟩ [] .ret:=by
 obtain⟨j,f,news,a,h⟩:=h;obtain⟨b,n,o⟩:=h;cases g:ires P ⟨N,s, [],nx,l⟩ (l++m) fn.results.toList with
 | none=>rw[g] at b;exact b.elim
 | some z=>
   rw[g] at b;obtain⟨r,t⟩:=qf1 j f o n (λp u=>by obtain⟨q,v,e⟩:=qc9 u;rw[e];exact qkz a.1 (i q v)) b;exact qi3 (S:=⟨N,s,d,nx,l⟩) g t ⟨_,qjq a.1 a.2.1 a.2.2,rfl,rfl⟩
def pg_d(n){f fn code args R c x W}(r:P.funcs[f]? =some fn)(o:fn.body=some code)(t:args.length<=fn.ntmps)(k)(u:R.length=k)
  (v:bels k args) (w:qdT k R) (y:qbC (k+c) W) (z:hasAll W k c) (g:bel (k+c) x)
  (A:isms args->vc P ⟨k,qan 0 R⟩ (qpV P fn k (qan 0 R) c x W) n [.code code] ⟨fn.ntmps,enum 0 args, [],k, []⟩):PG P f args R c x W:=by
 subst u;have a:=λp j=>qch y p j
 refine⟨qbQ v,λb o=>qcz (allBel_mem w b o),⟨λp j=>⟨(a p j).1,qcz (a p j).2⟩,qfW z⟩,qdy x g,?_⟩;intro M B C D q;have E:=qdG λi x g=>(q i x _ g (List.getElem?_eq_getElem wg)).small
 have:qa7 P f args ⟨R.length,qan 0 R⟩ (QG R.length c x W):=by
  refine qiU r o t (qbi.mono (vc_sound _ _ _ _ (A E)) λe S h=>?_);cases e with
  | normal=>exact h
  | ret=>exact h
  | panic ch=>exact h
  | exit id=>exact h.elim
  | goto l=>exact h.elim
  | outgrown=>exact h.elim
 exact this M B C D q
end Go.Idl
/- What a probe does to a node; a frame that comes. -/
namespace Go.Proofs.NO
open Go Go.Idl Go.Proofs Go.GP Go.Proofs.Tryz
set_option maxHeartbeats 0
set_option maxRecDepth 100000
def qpb(N:Int)(ls:List (Int × Int))(T:List Nd)(ff:Bool)(x:No)(link:Int)(f:Fm)(t:Int)(h:NOk N ls T t x)(ht:0<=t)(hb:t<=1000)(hl:ls.length<=1000000)(hT:qcX T)
  (hi:0<=f.init/\f.init<=5) (hp:f.path.length<=100) (hw:(stOf T x.h).waits.length<=1000):
  PG prog 189 [.ptr 0 0 0 0] [.arr 45 0 [wRow N ls T ff x (.ref 1 0 0 0) [] [] link f], .arr 10 0 (ir eOu [])] 0 (.tup [])
   [(0, .arr 45 0 [wRow N ls T ff (probedN ls (stOf T x.h) x link f).x (lOus (probedN ls (stOf T x.h) x link f).out) [] (probedN ls (stOf T x.h) x link f).path link f])]:=by
 obtain⟨n,j,nd,g⟩:=h.hf;have hsn:=h.sn;have hH:=qqY N ls T ff x.h n j nd (stOf T x.h) g.hn g.hj g.hx g.hq hl hw g.inl g.outl x.seen wa link f hi hp;unfold probedN;generalize hearP ls (stOf T x.h) x.h x.seen link f=r at *;obtain⟨r1,r2,r3⟩:=r;simp only at hH ⊢;refine pg_of 200 (fn:=f189) func189 rfl (by simp[ntmps189]) 2 rfl zC zC zC zC zC λhs=>?_;refine zV ?_;refine zN [0] (U::U::U::U::U::U::U::U::U::U::U::U::U::U::U::U::U::U::U::U::U::U::U::U::U::some [0,1,2]::U::U::U::U::U::U::U::some [1,2,28,29]::U::U::some [2,29]::U::U::U::some []:: []) ?_;(refine zF ?_;refine qaa (hH) zB ?_);((try refine zO ?_);(try with_reducible exact True.intro))
def hOc(N:Int)(ls:List (Int × Int))(T:List Nd)(ff:Bool)(link:Int)(f:Fm)(d:Td):Oc:=
 if f.kind=6 then(if d.e=0 then .ok 0 (.tup []) [(0, .arr 45 0 [wRow N ls T ff d.x (lOus d.out) d.ps d.path link f])] else .pan) else wOc N ls T ff link f d
end Go.Proofs.NO
