/- Facts that the proofs of this claim lean on. -/
import Derived.Test.YtfhhdgkhajkapaaGreatNNn
import Derived.Test.YtfhhdgkhajkapaaGreatIdRc
import Derived.Test.YtfhhdgkhajkapaaGreatIdRn
set_option linter.unusedSimpArgs false
set_option linter.unusedVariables false
/- Probes that come; a probe that begins. -/
namespace Go.Proofs.NO
open Go Go.Idl Go.Proofs Go.GP Go.Proofs.Tryz
set_option maxHeartbeats 20000000
set_option maxRecDepth 100000
theorem qoS (N:Int) (ls:List (Int × Int)) (T:List Nd) (ff:Bool) (h:Hs) (n j:Nat) (nd:Nd) (st:St) (hn:h.node=n) (hj:h.state=j) (hx:T[n]? =some nd) (hq:nd.states[j]? =some st) (hl:ls.length≤1000000)
  (hw:st.waits.length≤1000) (hil:h.inn.length=(ins h.node 0 ls).length) (hol:h.out.length=(outs h.node 0 ls).length) (seen:List Int) (hse:seen.length≤100) (link:Int) (f:Fm) (hi0:0≤f.init∧f.init≤5) (hp:f.path.length≤100):
  Pure prog 248 [lAp N ls T ff,lHs h,lI seen,sci .i64 link,lFm f] (.tup [lI (hearP ls st h seen link f).1,lOus (hearP ls st h seen link f).2.1,lI (hearP ls st h seen link f).2.2]):=by
 have hB:=qk0 N ls T ff h n j nd st hn hj hx hq
 have hS:=qoX N ls T ff h n j nd st hn hj hx hq hl hw hil f.init f.num f.path hp
 have hI:=qc3 N h.node ls hl
 have hC:=qfl (ins h.node 0 ls) link
 have hBk:=qfo N ls link hl
 have hG:=qo6 ⟨N,ls,T,ff,0, []⟩ h (qaz ls link) hl hol
 have hCl:=CloneI_spec f.path (by omega)
 obtain⟨i,ei⟩:=Int.eq_ofNat_of_zero_le hi0.1
 have hLa:=qpF seen i
 obtain⟨f1,f2,⟨f3,f4⟩,f5,f6,f7,f8,f9⟩:=f
 simp only at ei hi0 hp hS hCl
 subst ei
 unfold hearP
 simp only [Int.toNat_natCast]
 generalize sendsP ls st h (i:Int) f7 f9=S at *
 by_cases c1:link∈ins h.node 0 ls
 rotate_left
 ·rw [if_pos (.inl c1)]
  rw [decide_eq_false c1] at hC
  refine pcall0 200 (fn:=f248) func248 rfl (by simp [ntmps248]) zB zB fun hs=>?_
  try refine zW ?_
  (refine zM [2,3,5,6,9,13,14] ?_;refine zI [none,none,none,none,some [5],none,some [],none,none,none,some [],none,none,none,none,none,none,none,none,some [14,15,21,22],some [21,22],none,none,none,none] ?_)
  try refine zO ?_
  (refine zF ?_;refine callA_of (hI) zB ?_)
  try refine zO ?_
  (refine zF ?_;refine callA_of (hC) zB ?_)
  ((try refine zO ?_);(try with_reducible exact True.intro))
 rw [decide_eq_true c1] at hC
 by_cases c2:st.mode=2
 rotate_left
 ·rw [if_pos (.inr (.inl c2))]
  have e2:(st.mode==2)=false:=beq_eq_false_iff_ne.2 c2
  rw [e2] at hB
  refine pcall0 200 (fn:=f248) func248 rfl (by simp [ntmps248]) zB zB fun hs=>?_
  try refine zW ?_
  (refine zM [2,3,5,6,9,13,14] ?_;refine zI [none,none,none,none,some [5],none,some [],none,none,none,some [],none,none,none,none,none,none,none,none,some [14,15,21,22],some [21,22],none,none,none,none] ?_)
  try refine zO ?_
  (refine zF ?_;refine callA_of (hI) zB ?_)
  try refine zO ?_
  (refine zF ?_;refine callA_of (hC) zB ?_)
  try refine zO ?_
  (refine zF ?_;refine callA_of (hB) zB ?_)
  ((try refine zO ?_);(try with_reducible exact True.intro))
 have e2:(st.mode==2)=true:=beq_iff_eq.2 c2
 rw [e2] at hB
 simp only at hG
 generalize hgv:lenAt h.out (indexL (qaz ls link) 0 (outs h.node 0 ls))=gv at *
 by_cases c3:gv=f8
 rotate_left
 ·rw [if_pos (.inr (.inr c3))]
  have e3:(gv != f8)=true:=bne_iff_ne.2 c3
  refine pcall0 200 (fn:=f248) func248 rfl (by simp [ntmps248]) zB zB fun hs=>?_
  try refine zW ?_
  (refine zM [2,3,5,6,9,13,14] ?_;refine zI [none,none,none,none,some [5],none,some [],none,none,none,some [],none,none,none,none,none,none,none,none,some [14,15,21,22],some [21,22],none,none,none,none] ?_)
  try refine zO ?_
  (refine zF ?_;refine callA_of (hI) zB ?_)
  try refine zO ?_
  (refine zF ?_;refine callA_of (hC) zB ?_)
  try refine zO ?_
  (refine zF ?_;refine callA_of (hB) zB ?_)
  try refine zO ?_
  (refine zF ?_;refine callA_of (hBk) zB ?_)
  try refine zO ?_
  (refine zF ?_;refine callA_of (hG) zB ?_)
  (try simp (maxSteps:=2000000) (disch:=omega) only [go_sem,simprocAttr,zD,zE,e3])
 have e3:(gv != f8)=false:=by simp [c3]
 rw [if_neg (fun q=>q.elim (fun q=>q c1) fun q=>q.elim (fun q=>q c2) fun q=>q c3)]
 by_cases c4:(i:Int)=h.node
 ·rw [if_pos c4]
  have e4:((i:Int)==h.node)=true:=beq_iff_eq.2 c4
  refine pcall0 200 (fn:=f248) func248 rfl (by simp [ntmps248]) zB zB fun hs=>?_
  try refine zW ?_
  (refine zM [2,3,5,6,9,13,14] ?_;refine zI [none,none,none,none,some [5],none,some [],none,none,none,some [],none,none,none,none,none,none,none,none,some [14,15,21,22],some [21,22],none,none,none,none] ?_)
  try refine zO ?_
  (refine zF ?_;refine callA_of (hI) zB ?_)
  try refine zO ?_
  (refine zF ?_;refine callA_of (hC) zB ?_)
  try refine zO ?_
  (refine zF ?_;refine callA_of (hB) zB ?_)
  try refine zO ?_
  (refine zF ?_;refine callA_of (hBk) zB ?_)
  try refine zO ?_
  (refine zF ?_;refine callA_of (hG) zB ?_)
  (try simp (maxSteps:=2000000) (disch:=omega) only [go_sem,simprocAttr,zD,zE,e3,e4])
  (refine zG ?_;refine callA_of (hCl) zB ?_)
  ((try refine zO ?_);(try with_reducible exact True.intro))
 rw [if_neg c4]
 have e4:((i:Int)==h.node)=false:=beq_eq_false_iff_ne.2 c4
 by_cases c5:f7≤(seen[i]?).getD 0
 ·rw [if_pos c5]
  refine pcall0 200 (fn:=f248) func248 rfl (by simp [ntmps248]) zB zB fun hs=>?_
  try refine zW ?_
  (refine zM [2,3,5,6,9,13,14] ?_;refine zI [none,none,none,none,some [5],none,some [],none,none,none,some [],none,none,none,none,none,none,none,none,some [14,15,21,22],some [21,22],none,none,none,none] ?_)
  try refine zO ?_
  (refine zF ?_;refine callA_of (hI) zB ?_)
  try refine zO ?_
  (refine zF ?_;refine callA_of (hC) zB ?_)
  try refine zO ?_
  (refine zF ?_;refine callA_of (hB) zB ?_)
  try refine zO ?_
  (refine zF ?_;refine callA_of (hBk) zB ?_)
  try refine zO ?_
  (refine zF ?_;refine callA_of (hG) zB ?_)
  (try simp (maxSteps:=2000000) (disch:=omega) only [go_sem,simprocAttr,zD,zE,e3,e4])
  (refine zM [2,9,13] ?_;refine zI [none,none,none,some [4,5],none,none,none] ?_)
  try refine zO ?_
  (refine zF ?_;refine callA_of (hLa) zB ?_)
  (try simp (maxSteps:=2000000) (disch:=omega) only [go_sem,simprocAttr,zD,zE,c5])
 rw [if_neg c5]
 obtain⟨Z,hZ⟩: ∃Z,Z=(seen++List.replicate (i+1 - seen.length) 0).set i f7:=⟨_,rfl⟩
 rw [←hZ]
 rcases Nat.lt_or_ge i seen.length with c6 | c6
 ·have m1: ¬(seen.length:Int) < (i:Int)+1:=by omega
  refine pcall0 200 (fn:=f248) func248 rfl (by simp [ntmps248]) zB zB fun hs=>?_
  try refine zW ?_
  (refine zM [2,3,5,6,9,13,14] ?_;refine zI [none,none,none,none,some [5],none,some [],none,none,none,some [],none,none,none,none,none,none,none,none,some [14,15,21,22],some [21,22],none,none,none,none] ?_)
  try refine zO ?_
  (refine zF ?_;refine callA_of (hI) zB ?_)
  try refine zO ?_
  (refine zF ?_;refine callA_of (hC) zB ?_)
  try refine zO ?_
  (refine zF ?_;refine callA_of (hB) zB ?_)
  try refine zO ?_
  (refine zF ?_;refine callA_of (hBk) zB ?_)
  try refine zO ?_
  (refine zF ?_;refine callA_of (hG) zB ?_)
  (try simp (maxSteps:=2000000) (disch:=omega) only [go_sem,simprocAttr,zD,zE,e3,e4])
  (refine zM [2,9,13] ?_;refine zI [none,none,none,some [4,5],none,none,none] ?_)
  try refine zO ?_
  (refine zF ?_;refine callA_of (hLa) zB ?_;try refine zW ?_)
  have hZ':Z=seen.set i f7:=by rw [hZ,show i+1 - seen.length=0 by omega,List.replicate_zero,List.append_nil]
  rw [hZ']
  (try simp (maxSteps:=2000000) (disch:=omega) only [go_sem,simprocAttr,zD,zE,c5,m1,eI])
  (refine zG ?_;refine callA_of (hS) zB ?_)
  try refine zO ?_
  rw [List.take_of_length_le (by simp)]
 ·have m1:(seen.length:Int) < (i:Int)+1:=by omega
  refine pcall0 200 (fn:=f248) func248 rfl (by simp [ntmps248]) zB zB fun hs=>?_
  try refine zW ?_
  (refine zM [2,3,5,6,9,13,14] ?_;refine zI [none,none,none,none,some [5],none,some [],none,none,none,some [],none,none,none,none,none,none,none,none,some [14,15,21,22],some [21,22],none,none,none,none] ?_)
  try refine zO ?_
  (refine zF ?_;refine callA_of (hI) zB ?_)
  try refine zO ?_
  (refine zF ?_;refine callA_of (hC) zB ?_)
  try refine zO ?_
  (refine zF ?_;refine callA_of (hB) zB ?_)
  try refine zO ?_
  (refine zF ?_;refine callA_of (hBk) zB ?_)
  try refine zO ?_
  (refine zF ?_;refine callA_of (hG) zB ?_)
  (try simp (maxSteps:=2000000) (disch:=omega) only [go_sem,simprocAttr,zD,zE,e3,e4])
  (refine zM [2,9,13] ?_;refine zI [none,none,none,some [4,5],none,none,none] ?_)
  try refine zO ?_
  (refine zF ?_;refine callA_of (hLa) zB ?_;try refine zW ?_)
  obtain⟨m,hm⟩: ∃m,m=i+1:=⟨_,rfl⟩
  have t1:((i:Int)+1).toNat=m:=by omega
  have t2:seen.length.min m=seen.length:=Nat.min_eq_left (by omega)
  have t3:seen.take seen.length=seen:=List.take_length
  have t4: ∀k:Nat,List.replicate k [IV.p (.sc (.int .i64 0))]=ir eI (List.replicate k 0):=fun k=>by simp [ir,eI]
  have t5:ir eI seen++ir eI (List.replicate (m - seen.length) 0)=ir eI (seen++List.replicate (m - seen.length) 0):=by simp [ir]
  rw [←hm] at hZ
  obtain⟨A,hA⟩: ∃A,A=seen++List.replicate (m - seen.length) 0:=⟨_,rfl⟩
  have hAl:A.length=i+1:=by rw [hA,List.length_append,List.length_replicate];omega
  rw [←hA] at hZ t5
  clear hA
  subst hZ
  (try simp (maxSteps:=2000000) (disch:=omega) only [go_sem,simprocAttr,zD,zE,c5,m1,t1,t2,t3,t4,t5,eI])
  (refine zG ?_;refine callA_of (hS) zB ?_)
  try refine zO ?_
  rw [List.take_of_length_le (by rw [List.length_set];omega)]
end Go.Proofs.NO
/-
 A function that defers calls, told at a small heap: what it leaves of the blocks that it was given.
-/
namespace Go.Idl
variable {P:Program}
def QG (k c:Nat) (x:IV) (W:List (Nat × IBlk)) (r:IEnd) (_:Nat) (l:List (Nat × IBlk)):Prop:= ∃σ,qha k c σ∧r= .ret (rnm σ x)∧l=rnL σ W
def qnV (P:Program) (fn:Func) (k:Nat) (m:List (Nat × IBlk)) (c:Nat) (x:IV) (W:List (Nat × IBlk)):Exit→qaa→Prop
 | .normal,S=>qbb P fn ⟨k,m⟩ (QG k c x W) S S.d .ret
 | .ret,S=>qbb P fn ⟨k,m⟩ (QG k c x W) S S.d .ret
 | .panic ch,S=>qbb P fn ⟨k,m⟩ (QG k c x W) S S.d (.pan ch)
 | _,_=>False
section
variable {fn:Func} {kk c:Nat} {m:List (Nat × IBlk)} {x:IV} {W:List (Nat × IBlk)} {ch:List PanicEntry} {N:Nat} {s:List (Nat × IV)} {d:List IDef} {nx:Nat} {l:List (Nat × IBlk)}
@[go_sem ↓] theorem EndDG_ret:qnV P fn kk m c x W .ret ⟨N,s,d,nx,l⟩=qbb P fn ⟨kk,m⟩ (QG kk c x W) ⟨N,s,d,nx,l⟩ d .ret:=(rfl)
@[go_sem ↓] theorem qsq:qnV P fn kk m c x W (.panic ch) ⟨N,s,d,nx,l⟩=qbb P fn ⟨kk,m⟩ (QG kk c x W) ⟨N,s,d,nx,l⟩ d (.pan ch):=(rfl)
end
theorem qcw {fn:Func} {k c:Nat} {m:List (Nat × IBlk)} {x:IV} {W:List (Nat × IBlk)} {N:Nat} {s:List (Nat × IV)} {d:List IDef} {nx:Nat} {l:List (Nat × IBlk)} (hW: ∀p∈W,p.1 < k+c) (news:List Nat)
  (h:EndG P fn k m c x W .ret ⟨N,s, [],nx,l⟩):qbb P fn ⟨k,m⟩ (QG k c x W) ⟨N,s,d,nx,l⟩ [] .ret:=by
 obtain⟨hd,hnx,news,hn,h⟩:=h
 obtain⟨h1,h2,h3⟩:=h
 cases hi:ires P ⟨N,s, [],nx,l⟩ (l++m) fn.results.toList with
 | none=>rw [hi] at h1;exact h1.elim
 | some z=>
   rw [hi,qaj] at h1
   obtain⟨ids,hl⟩:=qe8 hd hnx h3 h2 (fun p hp=>by obtain⟨q,hq,e⟩:=qdd hp;rw [e];exact qjF hn.1 (hW q hq)) h1
   exact qhZ (S:=⟨N,s,d,nx,l⟩) hi hl ⟨_,qim hn.1 hn.2.1 hn.2.2,rfl,rfl⟩
theorem pg_d (n:Nat) {f:FuncId} {fn:Func} {code:Code} {args:List IV} {R:List IBlk} {c:Nat} {x:IV} {W:List (Nat × IBlk)} (hf:P.funcs[f]? =some fn) (hb:fn.body=some code) (hn:args.length≤fn.ntmps) (k:Nat) (hk:R.length=k)
  (ha:bels k args) (hR:qeq k R) (hW:qdo (k+c) W) (hA:hasAll W k c) (hx:bel (k+c) x)
  (hc:isms args→vc P ⟨k,qbH 0 R⟩ (qnV P fn k (qbH 0 R) c x W) n [.code code] ⟨fn.ntmps,enum 0 args, [],k, []⟩):PG P f args R c x W:=by
 subst hk
 have hWl: ∀p∈W,p.1 < R.length+c∧qbk (R.length+c) p.2:=fun p hp=>qcm hW p hp
 refine⟨qbB ha,fun b hb=>qcM (allBel_mem hR b hb),⟨fun p hp=>⟨(hWl p hp).1,qcM (hWl p hp).2⟩,qe1 hA⟩,qdG x hx,?_⟩
 intro M vs hM hl hr
 have hs:isms args:=qc9 fun i x hx=>(hr i x _ hx (List.getElem?_eq_getElem (by have:=qab hx;omega))).small
 have:qa5 P f args ⟨R.length,qbH 0 R⟩ (QG R.length c x W):=by
  refine qhP hf hb hn (qbd.mono (vc_sound _ _ _ _ (hc hs)) fun e S he=>?_)
  cases e with
  | normal=>exact he
  | ret=>exact he
  | panic ch=>exact he
  | exit id=>exact he.elim
  | goto l=>exact he.elim
  | outgrown=>exact he.elim
 exact this M vs hM hl hr
end Go.Idl
/- What a probe does to a node; a frame that comes. -/
namespace Go.Proofs.NO
open Go Go.Idl Go.Proofs Go.GP Go.Proofs.Tryz
set_option maxHeartbeats 20000000
set_option maxRecDepth 100000
theorem qng (N:Int) (ls:List (Int × Int)) (T:List Nd) (ff:Bool) (x:No) (link:Int) (f:Fm) (t:Int) (h:NOk N ls T t x) (ht:0≤t) (hb:t≤1000) (hl:ls.length≤1000000) (hT:qdP T)
  (hi:0≤f.init∧f.init≤5) (hp:f.path.length≤100) (hw:(stOf T x.h).waits.length≤1000):
  PG prog 189 [.ptr 0 0 0 0] [.arr 45 0 [wRow N ls T ff x (.ref 1 0 0 0) [] [] link f], .arr 10 0 (ir eOu [])] 0 (.tup [])
   [(0, .arr 45 0 [wRow N ls T ff (probedN ls (stOf T x.h) x link f).x (lOus (probedN ls (stOf T x.h) x link f).out) [] (probedN ls (stOf T x.h) x link f).path link f])]:=by
 obtain⟨n,j,nd,g⟩:=h.hf
 have hsn:=h.sn
 have hH:=qoS N ls T ff x.h n j nd (stOf T x.h) g.hn g.hj g.hx g.hq hl hw g.inl g.outl x.seen (by omega) link f hi hp
 unfold probedN
 generalize hearP ls (stOf T x.h) x.h x.seen link f=r at *
 obtain⟨r1,r2,r3⟩:=r
 simp only at hH ⊢
 refine pg_of 200 (fn:=f189) func189 rfl (by simp [ntmps189]) 2 rfl zC zC zC zC zC fun hs=>?_
 try refine zW ?_
 (refine zM [0] ?_;refine zI (none::none::none::none::none::none::none::none::none::none::none::none::none::none::none::none::none::none::none::none::none::none::none::none::none::some [0,1,2]::none::none::none::none::none::none::none::some [1,2,28,29]::none::none::some [2,29]::none::none::none::some []:: []) ?_)
 try refine zO ?_
 (refine zF ?_;refine callA_of (hH) zB ?_)
 ((try refine zO ?_);(try with_reducible exact True.intro))
def hOc (N:Int) (ls:List (Int × Int)) (T:List Nd) (ff:Bool) (link:Int) (f:Fm) (d:Td):Oc:=
 if f.kind=6 then(if d.e=0 then .ok 0 (.tup []) [(0, .arr 45 0 [wRow N ls T ff d.x (lOus d.out) d.ps d.path link f])] else .pan) else wOc N ls T ff link f d
end Go.Proofs.NO
