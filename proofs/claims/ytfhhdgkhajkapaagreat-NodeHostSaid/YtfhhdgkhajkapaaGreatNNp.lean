/- Facts leant on. -/
import Derived.Test.YtfhhdgkhajkapaaGreatIdRc
import Derived.Test.YtfhhdgkhajkapaaGreatIdRb
import Derived.Test.YtfhhdgkhajkapaaGreatNNo
set_option linter.all false
open Option renaming none->U
namespace Go.Idl
variable{P:Program}
def QG(k c:Nat)(x:IV)(W:List (Nat × IBlk))(r:IEnd)(_:Nat)(l:List (Nat × IBlk)):Prop:= ∃a,qhQ k c a/\r= .ret (rnm a x)/\l=rnL a W
def qnM(P:Program)(fn:Func)(k:Nat)(m:List (Nat × IBlk))(c:Nat)(x:IV)(W:List (Nat × IBlk)):Exit->qab->Prop
 | .normal,S=>qbg P fn ⟨k,m⟩ (QG k c x W) S S.d .ret
 | .ret,S=>qbg P fn ⟨k,m⟩ (QG k c x W) S S.d .ret
 | .panic a,S=>qbg P fn ⟨k,m⟩ (QG k c x W) S S.d (.pan a)
 | _,_=>False
section
variable{fn:Func}{kk c:Nat}{m:List (Nat × IBlk)}{x:IV}{W:List (Nat × IBlk)}{ch:List PanicEntry}{N:Nat}{s:List (Nat × IV)}{d:List IDef}{nx:Nat}{l:List (Nat × IBlk)}
@[go_sem ↓] theorem EndDG_ret:qnM P fn kk m c x W .ret ⟨N,s,d,nx,l⟩=qbg P fn ⟨kk,m⟩ (QG kk c x W) ⟨N,s,d,nx,l⟩ d .ret:=(rfl)
@[go_sem ↓] theorem qsT:qnM P fn kk m c x W (.panic ch) ⟨N,s,d,nx,l⟩=qbg P fn ⟨kk,m⟩ (QG kk c x W) ⟨N,s,d,nx,l⟩ d (.pan ch):=(rfl)
end
def qcP{fn k c m x W N s d nx l}(i: ∀p∈W,p.1 < k+c)(news:List Nat)
  (h:EndG P fn k m c x W .ret ⟨N,s, [],nx,l⟩):qbg P fn ⟨k,m⟩ (QG k c x W) ⟨N,s,d,nx,l⟩ [] .ret:=by
 obtain⟨j,f,news,a,h⟩:=h;obtain⟨b,n,o⟩:=h;cases g:ires P ⟨N,s, [],nx,l⟩ (l++m) fn.results.toList with
 | none=>rw[g] at b;exact b.elim
 | some z=>
   rw[g] at b;obtain⟨r,t⟩:=qfx j f o n (λp u=>by obtain⟨q,v,e⟩:=qcY u;rw[e];exact qjI a.1 (i q v)) b;exact qig (S:=⟨N,s,d,nx,l⟩) g t ⟨_,qiD a.1 a.2.1 a.2.2,rfl,rfl⟩
def pg_d(n){f fn code args R c x W}(r:P.funcs[f]? =some fn)(o:fn.body=some code)(t:args.length<=fn.ntmps)(k)(u:R.length=k)
  (v:bels k args) (w:qcb k R) (y:qbp (k+c) W) (z:hasAll W k c) (g:bel (k+c) x)
  (A:isms args->vc P ⟨k,qak 0 R⟩ (qnM P fn k (qak 0 R) c x W) n [.code code] ⟨fn.ntmps,enum 0 args, [],k, []⟩):PG P f args R c x W:=by
 subst u;have a:=λp j=>qb5 y p j
 refine⟨qbH v,λb o=>qco (allBel_mem w b o),⟨λp j=>⟨(a p j).1,qco (a p j).2⟩,qfr z⟩,qdj x g,?_⟩;intro M B C D q;have E:=qds λi x g=>(q i x _ g (List.getElem?_eq_getElem wg)).small
 have:qa5 P f args ⟨R.length,qak 0 R⟩ (QG R.length c x W):=by
  refine qh7 r o t (qbi.mono (vc_sound _ _ _ _ (A E)) λe S h=>?_);cases e with
  | normal=>exact h
  | ret=>exact h
  | panic ch=>exact h
  | exit id=>exact h.elim
  | goto l=>exact h.elim
  | outgrown=>exact h.elim
 exact this M B C D q
end Go.Idl
/- What a probe does to a node; a frame that comes. -/
namespace Go.Proofs.NO
open Go Go.Idl Go.Proofs Go.GP Go.Proofs.Tryz
set_option maxHeartbeats 0
set_option maxRecDepth 100000
def qm4(N:Int)(ls:List (Int × Int))(T:List Nd)(ff:Bool)(x:No)(link:Int)(f:Fm)(t:Int)(h:NOk N ls T t x)(ht:0<=t)(hb:t<=1000)(hl:ls.length<=1000000)(hT:qd9 T)
  (hi:0<=f.init/\f.init<=5) (hp:f.path.length<=100) (hw:(stOf T x.h).waits.length<=1000):
  PG prog 189 [.ptr 0 0 0 0] [.arr 45 0 [wRow N ls T ff x (.ref 1 0 0 0) [] [] link f], .arr 10 0 (ir eOu [])] 0 (.tup [])
   [(0, .arr 45 0 [wRow N ls T ff (probedN ls (stOf T x.h) x link f).x (lOus (probedN ls (stOf T x.h) x link f).out) [] (probedN ls (stOf T x.h) x link f).path link f])]:=by
 obtain⟨n,j,nd,g⟩:=h.hf;have hsn:=h.sn;have hH:=qoM N ls T ff x.h n j nd (stOf T x.h) g.hn g.hj g.hx g.hq hl hw g.inl g.outl x.seen wa link f hi hp;unfold probedN;generalize hearP ls (stOf T x.h) x.h x.seen link f=r at *;obtain⟨r1,r2,r3⟩:=r;simp only at hH ⊢;refine zAh func189 2 λhs=>?_;refine zN [0] (U::U::U::U::U::U::U::U::U::U::U::U::U::U::U::U::U::U::U::U::U::U::U::U::U::some [0,1,2]::U::U::U::U::U::U::U::some [1,2,28,29]::U::U::some [2,29]::U::U::U::some []:: []) ?_;(refine zF ?_;refine qaa (hH) zB ?_);exact zU
def hOc(N:Int)(ls:List (Int × Int))(T:List Nd)(ff:Bool)(link:Int)(f:Fm)(d:Td):Oc:=
 if f.kind=6 then(if d.e=0 then .ok 0 (.tup []) [(0, .arr 45 0 [wRow N ls T ff d.x (lOus d.out) d.ps d.path link f])] else .pan) else wOc N ls T ff link f d
end Go.Proofs.NO
