/- Facts that the proofs of this claim lean on. -/
import Derived.Test.YtfhhdgkhajkapaaGreatIdRb
import Derived.Test.YtfhhdgkhajkapaaGreatIdNl
set_option linter.unusedSimpArgs false
set_option linter.unusedVariables false
/-
 Regions that draw their order, of which one call panics.
-/
namespace Go.Idl
variable {P:Program} {h0:IH} {B:Nat→Prop}
def qi2 (P:Program) (h0:IH) (B:Nat→Prop) (Q:Exit→qaa→Prop) (all:Array Oper) (o:Oper) (S:qaa):Prop:=
 ∃f args ts q,o.op= .call {callee:= .value f,args:=⟨args⟩,argTypes:=⟨ts⟩}∧qar (ev S.s) f args=some q∧qam all S.s o=some true∧fnOk P q.1=true∧
  qjI P q.1 (qce P ts q.2) (look (S.l++h0.m)) S.nx fun ch W=> ∀nx',S.nx≤nx'→B nx'→Q (.panic ch) ⟨S.n, [],S.d,nx',W++S.l⟩
inductive qaY (P:Program) (h0:IH) (B:Nat→Prop) (Q:Exit→qaa→Prop) (all:Array Oper):List Nat→List Oper→qaa→List FR→qaa→Prop where
 | nil (S:qaa):qaY P h0 B Q all [] [] S [] S
 | live {n:Nat} {fl:List Nat} {o:Oper} {r:List Oper} {S S1 S':qaa} {fr:FR} {frs:List FR} (hn:n≠1∧n≠2) (h1:qaE P h0 all [o] S [fr] S1) (h:qaY P h0 B Q all fl r S1 frs S'):
   qaY P h0 B Q all (n::fl) (o::r) S (fr::frs) S'
 | dead {n:Nat} {fl:List Nat} {o:Oper} {r:List Oper} {S S':qaa} {frs:List FR} (hn:n=1∨n=2) (hp:n=2→qi2 P h0 B Q all o S) (hd:dOk S.n o.dst=true)
   (h:qaY P h0 B Q all fl r ⟨S.n,putS o.dst .dead S.s,S.d,S.nx,S.l⟩ frs S'):qaY P h0 B Q all (n::fl) (o::r) S ({x:= .dead}::frs) S'
section
variable {Q:Exit→qaa→Prop} {all:Array Oper} {fl:List Nat} {ops:List Oper} {S S':qaa} {frs:List FR}
theorem qaE.one {o:Oper} {fr:FR} {S1:qaa} (h:qaE P h0 all [o] S [fr] S1):
  S1=⟨S.n,putS o.dst fr.x S.s,S.d,S.nx+fr.F.length,fr.W.reverse++S.l⟩∧qjD P h0 all S S1 o fr S.s S.l∧(∀b∈fr.F,S.nx≤b∧b < S1.nx):=by
 obtain⟨fr',h1,h2⟩:=h.at 0 o rfl
 simp only [List.getElem?_cons_zero,Option.some.injEq] at h1
 subst h1
 simp only [Nat.not_lt_zero,decide_false,qbN,qbM] at h2
 refine⟨?_,h2,h2.range⟩
 cases h with
 | op hw hl hf hd h=>cases h;rfl
 | skip hw hd h=>cases h;simp
theorem qaY.nx (h:qaY P h0 B Q all fl ops S frs S'):S.nx≤S'.nx:=by
 induction h with
 | nil S=>exact Nat.le_refl _
 | live hn h1 h ih=>exact Nat.le_trans h1.nx ih
 | dead hn hp hd h ih=>exact ih
theorem qaY.length (h:qaY P h0 B Q all fl ops S frs S'):frs.length=ops.length∧fl.length=ops.length:=by
 induction h with
 | nil S=>simp
 | live hn h1 h ih=>simp [ih]
 | dead hn hp hd h ih=>simp [ih]
theorem qaY.fresh (h:qaY P h0 B Q all fl ops S frs S'):
  (∀(i:Nat) (f:FR),frs[i]? =some f→ ∀b∈f.F,S.nx≤b∧b < S'.nx)∧ ∀(i j:Nat) (f g:FR),i < j→frs[i]? =some f→frs[j]? =some g→ ∀b∈f.F,∀b'∈g.F,b < b':=by
 induction h with
 | nil S=>simp
 | live hn h1 h ih=>
   obtain⟨i1,i2⟩:=ih
   obtain⟨e,h2,h3⟩:=h1.one
   have hnx:=h.nx
   have hn1:=h1.nx
   refine⟨fun i f hi b hb=>?_,fun i j f g hij hi hj b hb b' hb'=>?_⟩
   ·cases i with
    | zero=>simp at hi;subst hi;have:=h3 b hb;omega
    | succ i=>have:=i1 i f (by simpa using hi) b hb;omega
   ·obtain⟨j,rfl⟩: ∃j',j=j'+1:=⟨j - 1,by omega⟩
    cases i with
    | zero=>simp at hi;subst hi;have:=h3 b hb;have:=i1 j g (by simpa using hj) b' hb';omega
    | succ i=>exact i2 i j f g (by omega) (by simpa using hi) (by simpa using hj) b hb b' hb'
 | dead hn hp hd h ih=>
   obtain⟨i1,i2⟩:=ih
   refine⟨fun i f hi b hb=>?_,fun i j f g hij hi hj b hb b' hb'=>?_⟩
   ·cases i with
    | zero=>simp at hi;subst hi;simp at hb
    | succ i=>exact i1 i f (by simpa using hi) b hb
   ·obtain⟨j,rfl⟩: ∃j',j=j'+1:=⟨j - 1,by omega⟩
    cases i with
    | zero=>simp at hi;subst hi;simp at hb
    | succ i=>exact i2 i j f g (by omega) (by simpa using hi) (by simpa using hj) b hb b' hb'
theorem qaY.at (h:qaY P h0 B Q all fl ops S frs S'): ∀(i:Nat) (o:Oper) (n:Nat),ops[i]? =some o→fl[i]? =some n→n≠1→n≠2→
  ∃fr,frs[i]? =some fr∧qjD P h0 all S S' o fr (selS ops frs (fun k=>decide (k < i)) S.s) (selL frs (fun k=>decide (k < i)) S.l):=by
 induction h with
 | nil S=>intro i o n ho;simp at ho
 | @live n0 fl o r S S1 S' fr frs hn h1 h ih=>
   intro i o' n ho' hf n1 n2
   obtain⟨e,h2,h3⟩:=h1.one
   have hnx:=h.nx
   have hn1:=h1.nx
   cases i with
   | zero=>
     simp at ho';subst ho'
     refine⟨fr,rfl,?_⟩
     simp only [Nat.not_lt_zero,decide_false,qbN,qbM]
     exact⟨h2.dst,h2.does,h2.reads,h2.new,fun b hb=>(by have:=h2.range b hb;omega)⟩
   | succ i=>
     obtain⟨fr',g1,g2⟩:=ih i o' n (by simpa using ho') (by simpa using hf) n1 n2
     refine⟨fr',by simpa using g1,?_⟩
     simp only [selS,selL,qds,Nat.zero_lt_succ,decide_true,if_true]
     subst e
     exact⟨g2.dst,g2.does,g2.reads,g2.new,fun b hb=>(by have:=g2.range b hb;simp only at this;omega)⟩
 | @dead n0 fl o r S S' frs hn hp hd h ih=>
   intro i o' n ho' hf n1 n2
   cases i with
   | zero=>
     simp at hf;subst hf
     rcases hn with h | h
     ·exact absurd h n1
     ·exact absurd h n2
   | succ i=>
     obtain⟨fr',g1,g2⟩:=ih i o' n (by simpa using ho') (by simpa using hf) n1 n2
     refine⟨fr',by simpa using g1,?_⟩
     simp only [selS,selL,qds,Nat.zero_lt_succ,decide_true,if_true,List.reverse_nil,List.nil_append]
     exact⟨g2.dst,g2.does,g2.reads,g2.new,g2.range⟩
theorem qaY.pan (h:qaY P h0 B Q all fl ops S frs S'): ∀(i:Nat) (o:Oper),ops[i]? =some o→fl[i]? =some 2→
  ∃nx,nx≤S'.nx∧qi2 P h0 B Q all o ⟨S.n,selS ops frs (fun k=>decide (k < i)) S.s,S.d,nx,selL frs (fun k=>decide (k < i)) S.l⟩:=by
 induction h with
 | nil S=>intro i o ho;simp at ho
 | @live n0 fl o r S S1 S' fr frs hn h1 h ih=>
   intro i o' ho' hf
   obtain⟨e,h2,h3⟩:=h1.one
   cases i with
   | zero=>simp at hf;subst hf;exact absurd rfl hn.2
   | succ i=>
     obtain⟨nx,g1,g2⟩:=ih i o' (by simpa using ho') (by simpa using hf)
     refine⟨nx,g1,?_⟩
     simp only [selS,selL,qds,Nat.zero_lt_succ,decide_true,if_true]
     subst e
     exact g2
 | @dead n0 fl o r S S' frs hn hp hd h ih=>
   intro i o' ho' hf
   have hnx:=h.nx
   cases i with
   | zero=>
     simp at hf ho';subst hf ho'
     refine⟨S.nx,hnx,?_⟩
     simp only [Nat.not_lt_zero,decide_false,qbN,qbM]
     exact hp rfl
   | succ i=>
     obtain⟨nx,g1,g2⟩:=ih i o' (by simpa using ho') (by simpa using hf)
     refine⟨nx,g1,?_⟩
     simp only [selS,selL,qds,Nat.zero_lt_succ,decide_true,if_true,List.reverse_nil,List.nil_append]
     exact g2
end
def flGo (ms:List Nat) (j:Nat):Nat→List Nat→Bool
 | _, []=>true
 | i,n::r=>(match n with
   | 0=>true
   | 1=>((ms[i]?).getD 0).testBit j
   | 2=>i==j
   | _=>((ms[j]?).getD 0).testBit i) && flGo ms j (i+1) r
theorem qfa {ms:List Nat} {j:Nat}: ∀ {l:List Nat} {i:Nat},flGo ms j i l=true→ ∀(k n:Nat),l[k]? =some n→
  (n=1→((ms[i+k]?).getD 0).testBit j=true)∧(n=2→i+k=j)∧(3≤n→((ms[j]?).getD 0).testBit (i+k)=true)
 | [],i,_,k,n,h=>by simp at h
 | m::l,i,h,k,n,hk=>by
   simp only [flGo,Bool.and_eq_true] at h
   cases k with
   | zero=>
     simp at hk;subst hk
     have h1:=h.1
     refine⟨fun e=>?_,fun e=>?_,fun e=>?_⟩
     ·subst e;simpa using h1
     ·subst e;simpa using h1
     ·obtain⟨x,rfl⟩: ∃x,m=x+3:=⟨m - 3,by omega⟩
      simpa using h1
   | succ k=>
     have:=qfa h.2 k n (by simpa using hk)
     rw [show i+(k+1)=i+1+k by omega];exact this
def wchk:List Nat→List FP→Prop
 | n::fl,fp::r=>(if 3≤n then True else fp.2= [])∧wchk fl r
 | _,_=>True
theorem qis: ∀ {fl:List Nat} {r:List FP},wchk fl r→ ∀(i n:Nat) (fp:FP),fl[i]? =some n→r[i]? =some fp→fp.2≠ []→3≤n
 | [],r,_,i,n,fp,h,_,_=>by simp at h
 | _::_, [],_,i,n,fp,_,h,_=>by simp at h
 | m::fl,q::r,h,0,n,fp,h1,h2,h3=>by
   simp at h1 h2;subst h1 h2
   have:=h.1
   split at this
   ·assumption
   ·exact absurd this h3
 | m::fl,q::r,h,i+1,n,fp,h1,h2,h3=>qis h.2 i n fp (by simpa using h1) (by simpa using h2) h3
section
variable {ops:List Oper} {frs:List FR} {S S':qaa} {u:List (Option (List Nat))} {M0 M:Mem} {a:Act} {fl:List Nat} {Q0:Exit→qaa→Prop}
theorem J.stepX {L:Nat→Bool} {ro:Option Nat} (hro:RoOk ro (ops.all ndOp)) (hst:Stat ops u) (hd:qaY P h0 B Q0 ops.toArray fl ops S frs S') (hc:chk u (frs.map FR.fp)) (hJ:J M0 h0 ops frs S L M a) {i n:Nat} {o:Oper} (ho:ops[i]? =some o) (hn:fl[i]? =some n) (hn1:n≠1) (hn2:n≠2)
  (hr: ∀e∈o.after.toList,Region.binds .any e=true→L e.on=true) (hi:L i=false) {K:Act→World→Prop} {Q:Exit→Act→World→Prop}
  (hK: ∀M' a',J M0 h0 ops frs S (fun k=>if k=i then true else L k) M' a'→K a' M'.w):wpOpIn (Wd ro) 0 P ops.toArray Q i K a M.w:=by
 obtain⟨fr,hfr,hat⟩:=hd.at i o n ho hn hn1 hn2
 have hfree:=hJ.free hst ho hr hi
 have hlen:=hd.length.1
 have hslot: ∀t,t∈o.looksAt ops.toArray→look (selS ops frs L S.s) t=look (selS ops frs (fun k=>decide (k < i)) S.s) t:=by
  intro t ht
  refine selS_agree rfl fun j oj hj hne e=>?_
  exact hst.looks i j o oj (hfree j hne) ho hj t e ht
 have hread: ∀p∈fr.R,look (selL frs L S.l++h0.m) p.1=some p.2:=by
  intro p hp
  rw [←hat.reads p hp,qac,qac]
  congr 1
  rw [qbL (l':=S.l) rfl fun j f hj hne q hq=>?_]
  exact fun e=>((qdL hst hlen hc (hfree j hne) hfr hj q hq).1 p hp) e.symm
 have hA: ∀b,M.H.A b→b < S'.nx:=by
  intro b hb
  rcases hJ.A b hb with h | ⟨j,f,_,hf,hb⟩
  ·exact Nat.lt_of_lt_of_le h hd.nx
  ·exact(hd.fresh.1 j f hf b hb).2
 have hM:HRel S'.nx (selL frs L S.l++h0.m) M:=⟨hJ.rel,hA,hJ.G⟩
 have hfresh: ∀b∈fr.F,¬M.H.A b:=by
  intro b hb hab
  obtain⟨r1,_⟩:=hd.fresh.1 i fr hfr b hb
  rcases hJ.A b hab with h | ⟨j,f,hLj,hf,hb'⟩
  ·omega
  ·have hne:j≠i:=by rintro rfl;rw [hi] at hLj;cases hLj
   rcases Nat.lt_or_gt_of_ne hne with h | h
   ·have:=hd.fresh.2 j i f fr h hf hfr b hb' b hb;omega
   ·have:=hd.fresh.2 i j fr f h hfr hf b hb b hb';omega
 have hops: ∀y∈o.op.operands,∀z,ev (selS ops frs (fun k=>decide (k < i)) S.s) y=some z→VRel M z (a.eval y):=by
  intro y hy z hz
  refine ev_rel' hJ.slot (fun t ht=>hslot t ?_) hz
  subst ht
  exact List.mem_append_left _ (List.mem_filterMap.2 ⟨.tmp t,by simpa using hy,rfl⟩)
 have hguard: ∀j w d,o.guard=some (j,w)→(ops.toArray[j]?).bind (·.dst)=some d→look (selS ops frs L S.s) d=look (selS ops frs (fun k=>decide (k < i)) S.s) d:=by
  intro j w d hg hdd
  refine hslot d (List.mem_append_right _ ?_)
  rw [hg]
  simp only [hdd]
  simp
 have hnext: ∀(v:Value) (M':Mem),qad M M'→MRel M'→M'.H=M.H.upd fr.W→VRel M' fr.x v→J M0 h0 ops frs S (fun k=>if k=i then true else L k) M' (a.put o.dst v):=by
  intro v M' st rel hH hv
  have hdiff: ∀j,(if j=i then true else L j)≠L j→j=i:=by
   intro j h;by_cases e:j=i
   ·exact e
   ·rw [if_neg e] at h;exact absurd rfl h
  refine⟨hJ.st.trans st,rel,fun b hb=>?_,fun b=>?_,?_,fun t x hx=>?_,?_,fun k ok hk hl e he hb=>?_⟩
  ·rw [hH,qhx] at hb
   rcases hb with hb | ⟨blk,hb⟩
   ·rcases hJ.A b hb with h | ⟨j,f,h1,h2,h3⟩
    ·exact .inl h
    ·exact .inr ⟨j,f,by by_cases e:j=i<;>simp [e,h1],h2,h3⟩
   ·rcases hat.new _ hb with h | ⟨blk',h⟩
    ·exact .inr ⟨i,fr,by simp,hfr,h⟩
    ·have h1:=hread _ h
     simp only at h1
     rw [←hJ.G] at h1
     rcases hJ.A b (hJ.rel.dom b _ h1) with h | ⟨j,f,h1,h2,h3⟩
     ·exact .inl h
     ·exact .inr ⟨j,f,by by_cases e:j=i<;>simp [e,h1],h2,h3⟩
  ·rw [hH,qf5,qac]
   cases hw:look fr.W.reverse b with
   | some blk=>
     rw [qhM (i:=i) (by simp) hfr hw fun j f hj hlt hLj p hp e=>?_]
     have hLj':L j=true:=by simpa [show j≠i by omega] using hLj
     have hfj:=hfree j (by rw [hLj'];simp;omega)
     have hq:=qaA hw
     exact(qdL hst hlen hc hfj hfr hj p hp).2 _ (by simpa using hq) e.symm
   | none=>
     rw [qbL (l':=S.l) (L':=L) rfl fun j f hj hne p hp e=>?_]
     ·rw [hJ.G b,qac]
     ·have:=hdiff j hne
      subst this
      rw [hfr] at hj;cases hj
      exact look_none hw p (by simpa using hp) e
  ·cases hdst:o.dst with
   | none=>exact hJ.size
   | some d=>simp only [Act.put,Array.size_setIfInBounds];exact hJ.size
  ·by_cases e:o.dst=some t
   ·rw [qhN (i:=i) (by simp) ho hfr e (fun j oj hj hne=>hst.dst i j o oj (Ne.symm hne) ho hj t e)] at hx
    cases hx
    have hlt:t < a.tmps.size:=by
     have:=hat.dst
     rw [e] at this
     rw [hJ.size];simpa [dOk] using this
    exact⟨v,by rw [e];simp [Act.put,hlt],hv⟩
   ·rw [selS_agree (L':=L) (s':=S.s) rfl fun j oj hj hne=>(by have:=hdiff j hne;subst this;rw [ho] at hj;cases hj;exact e)] at hx
    obtain⟨v',h1,h2⟩:=hJ.slot t x hx
    refine⟨v',?_,h2.step st⟩
    cases hdst:o.dst with
    | none=>exact h1
    | some d=>
      simp only [Act.put]
      rw [Array.getElem?_setIfInBounds_ne (fun h=>e (by rw [hdst,h]))]
      exact h1
  ·have:(a.put o.dst v).defers=a.defers:=by cases o.dst<;>rfl
   rw [this]
   exact hJ.defs.step st
  ·by_cases ek:k=i
   ·subst ek
    rw [ho] at hk;cases hk
    have:=hr e he hb
    show(if e.on=k then true else L e.on)=true
    split<;>simp [this]
   ·have hl':L k=true:=by simpa [ek] using hl
    have:=hJ.closed k ok hk hl' e he hb
    show(if e.on=i then true else L e.on)=true
    split<;>simp [this]
 refine qjd (fun o' ho'=>hro.mem (List.mem_of_getElem? (by simpa using ho'))) ?_
 simp only [List.getElem?_toArray,ho]
 rcases hat.does with ⟨hw,hl⟩ | ⟨hw,he⟩
 ·rw [if_pos (qc9 hJ.slot hguard hw)]
  exact(hl S'.nx _ M a hM hread hfresh hops K Q fun v M' st rel hH hv=>hK M' _ (hnext v M' st rel hH hv))
 ·rw [qc9 hJ.slot hguard hw]
  simp only [Bool.false_eq_true,if_false]
  refine hK M _ (hnext undef M (.refl M) hJ.rel (by rw [he];rfl) (by rw [he];exact qhr _))
theorem J.panX {L:Nat→Bool} {k:List It} {j0:Nat} {ro:Option Nat} (hro:RoOk ro (ops.all ndOp)) (hst:Stat ops u) (hd:qaY P h0 B Q0 ops.toArray fl ops S frs S') (hfl:flGo (qaS ops []) j0 0 fl=true) (hc:wchk fl (frs.map FR.fp)) (hB:B S'.nx) (hJ:J M0 h0 ops frs S L M a) {o:Oper} (ho:ops[j0]? =some o) (hn:fl[j0]? =some 2)
  (hr: ∀e∈o.after.toList,Region.binds .any e=true→L e.on=true) (hi:L j0=false) {K:Act→World→Prop}:
  wpOpIn (Wd ro) 0 P ops.toArray (qcm h0 M0 fun e S=>after P h0 Q0 k e S) j0 K a M.w:=by
 have hfree:=hJ.free hst ho hr hi
 obtain⟨hlen,hlf⟩:=hd.length
 obtain⟨nx,hnx,f,args,ts,q,hop,hcal,hw,hfn,args',R,ch,Wp,ids,hp,⟨e1,ha,hR⟩,hQ⟩:=hd.pan j0 o ho hn
 have hslot: ∀t,t∈o.looksAt ops.toArray→look (selS ops frs L S.s) t=look (selS ops frs (fun k=>decide (k < j0)) S.s) t:=by
  intro t ht
  refine selS_agree rfl fun j oj hj hne e=>?_
  exact hst.looks j0 j o oj (hfree j hne) ho hj t e ht
 -- what the operations wrote
 have hGl: ∀b,look (selL frs L S.l++h0.m) b=look (selL frs (fun k=>decide (k < j0)) S.l++h0.m) b:=by
  intro b
  rw [qac,qac]
  congr 1
  refine qbL rfl fun j f hj hne p hp=>?_
  exfalso
  have hjl:=qab hj
  have hf1:=List.getElem?_eq_getElem (show j < fl.length by omega)
  have h3:=qis hc j _ f.fp hf1 (by rw [List.getElem?_map,hj];rfl) (by simp only [FR.fp];intro e;rw [List.map_eq_nil_iff] at e;rw [e] at hp;cases hp)
  have h4:=(qfa hfl j _ hf1).2.2 h3
  rw [Nat.zero_add] at h4
  exact(hfree j hne).2.2 h4
 have hA: ∀b,M.H.A b→b < S'.nx:=by
  intro b hb
  rcases hJ.A b hb with h | ⟨j,f,_,hf,hb⟩
  ·exact Nat.lt_of_lt_of_le h hd.nx
  ·exact(hd.fresh.1 j f hf b hb).2
 have hM:HRel S'.nx (selL frs (fun k=>decide (k < j0)) S.l++h0.m) M:=⟨hJ.rel,hA,fun b=>by rw [hJ.G,hGl]⟩
 have hops: ∀y∈o.op.operands,∀z,ev (selS ops frs (fun k=>decide (k < j0)) S.s) y=some z→VRel M z (a.eval y):=by
  intro y hy z hz
  refine ev_rel' hJ.slot (fun t ht=>hslot t ?_) hz
  subst ht
  exact List.mem_append_left _ (List.mem_filterMap.2 ⟨.tmp t,by simpa using hy,rfl⟩)
 have hguard: ∀j w d,o.guard=some (j,w)→(ops.toArray[j]?).bind (·.dst)=some d→look (selS ops frs L S.s) d=look (selS ops frs (fun k=>decide (k < j0)) S.s) d:=by
  intro j w d hg hdd
  refine hslot d (List.mem_append_right _ ?_)
  rw [hg]
  simp only [hdd]
  simp
 have hdef:qdF M S.d a.defers:=hJ.defs
 refine qjd (fun o' ho'=>hro.mem (List.mem_of_getElem? (by simpa using ho'))) ?_
 simp only [List.getElem?_toArray,ho]
 rw [if_pos (qc9 hJ.slot hguard hw)]
 obtain⟨vs,hrun,hlen',hv⟩:=qc7 (f:=f) (args:=args) (ts:=⟨ts⟩) hops hop hcal hfn
 have hh:Here M ids nx R 0:=qfM hM.rel ha hR (fun b blk _ hb=>by rw [hM.G];exact hb) (fun b h1 h2 hb=>by omega)
 have hwk:wks q.2 (rnms (ridx ids nx) args'):=by rw [e1];exact qcT ts q.2
 obtain⟨e2,e3⟩:=qbB hwk
 rw [qaC] at e2
 unfold Oper.wp
 rw [hrun]
 refine Calls.mono (hp.calls hM.rel hh (by omega) fun i y v hy hv'=>?_) fun e w' ⟨M',W,e4,st,rel,hH,he,hW,hk⟩=>?_
 ·have hlt:=qab hy
  have hx:=List.getElem?_eq_getElem (show i < q.2.length by omega)
  exact(hv i _ v hx hv').wk (e3 i _ _ hx (qbD hy))
 ·subst e4 he
  refine⟨M',⟨S.n, [],S.d,S'.nx,rnL (ridx ids nx) W++selL frs (fun k=>decide (k < j0)) S.l⟩,rfl,hJ.st.trans st,⟨?_,hJ.size,fun t x hx=>?_,hdef.step st⟩,qdH (hQ W hW _ hnx hB)⟩
  ·rw [List.append_assoc]
   refine qeC hM rel (Nat.le_refl _) hH fun p hp'=>?_
   obtain⟨q',hq',e⟩:=qcX hp'
   rw [e]
   obtain⟨blk,hb,_⟩:=seen_mem hR (hk q' hq')
   exact hM.A _ (hM.rel.dom _ blk (by rw [hM.G];exact hb))
  ·simp [look] at hx
theorem drawnX {k:List It} {j0:Nat} {o0:Oper} {ro:Option Nat} (hro:RoOk ro (ops.all ndOp)) (hst:Stat ops u) (hd:qaY P h0 B Q0 ops.toArray fl ops S frs S') (hfl:flGo (qaS ops []) j0 0 fl=true) (hc:chk u (frs.map FR.fp)) (hw:wchk fl (frs.map FR.fp)) (hB:B S'.nx) (ho0:ops[j0]? =some o0) (hn0:fl[j0]? =some 2):
  ∀(fuel:Nat) (listed:Array Bool) (M:Mem) (a:Act),listed.size=ops.length→(listed.toList.filter (·==true)).length+fuel=ops.length→listed.getD j0 false=false→
   J M0 h0 ops frs S (fun k=>listed.getD k false) M a→wpAnyIn (Wd ro) 0 P .any ops.toArray (qcm h0 M0 fun e S=>after P h0 Q0 k e S) fuel listed a M.w:=by
 have hgetD: ∀(listed:Array Bool) (k:Nat),k < listed.size→listed.getD k true=listed.getD k false:=by
  intro listed k hk;simp [hk]
 have hj0:=qab ho0
 have hready: ∀(listed:Array Bool),listed.size=ops.length→Region.ready .any ops.toArray listed= []→ ∀k,k < ops.length→listed.getD k false=true:=by
  intro listed hs hr k
  induction k using Nat.strongRecOn with
  | ind k ih=>
    intro hk
    cases hl:listed.getD k false with
    | true=>rfl
    | false=>
      exfalso
      have:k∈Region.ready .any ops.toArray listed:=by
       rw [mem_ready]
       refine⟨by rw [hgetD listed k (by omega)];exact hl,ops[k],by simp [hk],fun e he hb=>?_⟩
       have hlow:=hst.low k ops[k] (by simp [hk]) e (by simpa using he) hb
       exact ih e.on hlow (by omega)
      rw [hr] at this
      cases this
 have hcount: ∀(l:List Bool),(l.filter (·==true)).length=l.length→ ∀k,k < l.length→(l[k]?).getD false=true:=by
  intro l
  induction l with
  | nil=>intro _ k hk;simp at hk
  | cons b l ih=>
    intro h k hk
    have hle:=List.length_filter_le (·==true) l
    cases b with
    | true=>
      simp only [List.filter_cons,beq_self_eq_true,if_true,List.length_cons] at h
      cases k with
      | zero=>simp
      | succ k=>simpa using ih (by omega) k (by simpa using hk)
    | false=>
      simp at h
      simp at hle
      omega
 have hset: ∀(l:List Bool) (i:Nat),l[i]? =some false→((l.set i true).filter (·==true)).length=(l.filter (·==true)).length+1:=by
  intro l
  induction l with
  | nil=>intro i h;simp at h
  | cons b l ih=>
    intro i h
    cases i with
    | zero=>simp at h;subst h;simp
    | succ i=>
      have:=ih i (by simpa using h)
      simp only [List.set_cons_succ,List.filter_cons]
      split<;>simp_all
 intro fuel
 induction fuel with
 | zero=>
   intro listed M a hs hn hj hJ
   exfalso
   have:=hcount listed.toList (by simpa [hs] using hn) j0 (by simpa [hs] using hj0)
   have:listed.getD j0 false=true:=by simpa using this
   rw [hj] at this;cases this
 | succ fuel ih=>
   intro listed M a hs hn hj hJ
   refine⟨fun hr=>?_,fun i hi=>?_⟩
   ·have:=hready listed hs hr j0 hj0
    rw [hj] at this;cases this
   ·obtain⟨h1,o,ho,hre⟩:=mem_ready.1 hi
    simp only [List.getElem?_toArray] at ho
    have hlt:=qab ho
    have hfalse:listed.getD i false=false:=by rw [←hgetD listed i (by omega)];exact h1
    have hfi:=List.getElem?_eq_getElem (show i < fl.length by rw [hd.length.2];exact hlt)
    have hsp:=qfa hfl i _ hfi
    rw [Nat.zero_add] at hsp
    have hre': ∀e∈o.after.toList,Region.binds .any e=true→listed.getD e.on false=true:=fun e he hb=>hre e (by simpa using he) hb
    by_cases e2:fl[i]'(by rw [hd.length.2];exact hlt)=2
    ·have e:=hsp.2.1 e2
     subst e
     rw [ho] at ho0;cases ho0
     exact hJ.panX hro hst hd hfl hw hB ho hn0 hre' hfalse
    ·by_cases e1:fl[i]'(by rw [hd.length.2];exact hlt)=1
     ·have hp:=hst.prec i j0 (hsp.1 e1)
      have:=hp.listed hJ.closed (.inr ⟨o,ho,hre'⟩)
      rw [hj] at this;cases this
     ·refine hJ.stepX hro hst hd hc ho hfi e1 e2 hre' hfalse fun M' a' hJ'=>?_
      have hne:i≠j0:=by
       rintro rfl
       rw [hfi] at hn0
       simp only [Option.some.injEq] at hn0
       exact e2 hn0
      refine ih _ M' a' (by simpa using hs) ?_ ?_ ?_
      ·have hb:listed.toList[i]? =some false:=by
        have hi':i < listed.size:=by omega
        simp [hi'] at hfalse
        simp [hi',hfalse]
       have:=hset listed.toList i hb
       simp only [Array.toList_setIfInBounds]
       omega
      ·rw [getD_set_ne false hne];exact hj
      ·have:(fun k=>(listed.setIfInBounds i true).getD k false)=fun k=>if k=i then true else listed.getD k false:=by
        funext k
        by_cases e:k=i
        ·subst e
         have hi':k < listed.size:=by omega
         simp [hi']
        ·rw [getD_set_ne false (Ne.symm e),if_neg e]
       rw [this]
       exact hJ'
theorem qk0 {id:Nat} {k:List It} {j0:Nat} {o0:Oper} (hm:P.follows .mixedOrders=true) (hst:stat ops u=true) (hfl:flGo (qaS ops []) j0 0 fl=true) (hd:qaY P h0 B Q0 ops.toArray fl ops S frs S')
  (hc:chk u (frs.map FR.fp)) (hw:wchk fl (frs.map FR.fp)) (hB:B S'.nx) (ho0:ops[j0]? =some o0) (hn0:fl[j0]? =some 2):IRun P h0 (.code (.region id ops.toArray true)::k) S Q0:=by
 intro M0 hM0 M a hs hr ro hro
 refine wpIn_region_any hm ?_
 have:=drawnX (M0:=M0) (k:=k) (ro:=ro) hro (qiq hst) hd hfl hc hw hB ho0 hn0 ops.length (Array.replicate ops.length false)
  {M with w:=M.w.drew} a (by simp) (by simp) (by simp only [Array.getD_eq_getD_getElem?,Array.getElem?_replicate];split<;>rfl) ?_
 ·simp only [List.size_toArray]
  exact this
 ·have hsel:(fun k=>(Array.replicate ops.length false).getD k false)=fun _=>false:=by
   funext k
   simp only [Array.getD_eq_getD_getElem?,Array.getElem?_replicate]
   split<;>rfl
  rw [hsel]
  exact⟨hs.trans (.drew M),hr.heap.rel.drew,fun b hb=> .inl (hr.heap.A b hb),fun b=>(by rw [qbM];exact hr.heap.G b),hr.size,
   fun t x hx=>(by rw [qbN] at hx;obtain⟨v,h1,h2⟩:=hr.slot t x hx;exact⟨v,h1,h2.step (.drew M)⟩),hr.defs.step (.drew M),fun i o ho hl=>(by cases hl)⟩
end
/-! ### the walk -/
section
variable {Q:Exit→qaa→Prop} {all:Array Oper} {K:List FP→Prop} {fl:List Nat} {o:Oper} {r:List Oper} {N:Nat} {s:List (Nat × IV)} {d:List IDef} {nx:Nat} {l:List (Nat × IBlk)} {acc:List FP}
variable {dst:Option Tmp} {ty:TypeId} {pos:String} {aft:Array Edge} {g:Option (Nat × Bool)} {f:Operand} {args:List Operand} {ts:List TypeId}
end
attribute [go_sem] wchk
end Go.Idl
/-
 Functions that defer a call which recovers, on the walk.
-/
namespace Go.Idl
variable {P:Program} {h0:IH}
theorem qlc {F:Fence} {n:Nat} {o:Oper} {a:Act} {next next':Act→World→Prop} {Q Q':Exit→Act→World→Prop} {r:Result Next} (h:o.uponIn F n P a next Q r) (hn: ∀a w,next a w→next' a w) (hq: ∀e a w,Q e a w→Q' e a w):o.uponIn F n P a next' Q' r:=by
 have hl:LetsOut Q→LetsOut Q':=fun⟨a,w,q⟩=>⟨a,w,hq _ _ _ q⟩
 have hE: ∀e w,(match(e:Ending),(w:World) with | .returned v,w''=>next (a.put o.dst v) w'' | .panicked chain,w''=>Q (.panic chain) a w'' | .outgrown,_=>LetsOut Q)→
   (match e,w with | .returned v,w''=>next' (a.put o.dst v) w'' | .panicked chain,w''=>Q' (.panic chain) a w'' | .outgrown,_=>LetsOut Q'):=by
  intro e w hh
  cases e with
  | returned v=>exact hn _ _ hh
  | panicked ch=>exact hq _ _ _ hh
  | outgrown=>exact hl hh
 unfold Oper.uponIn at h ⊢
 split at h
 ·exact hn _ _ h
 ·exact hn _ _ h
 ·exact hn _ _ h
 ·exact⟨h.1,h.2.mono hE⟩
 ·exact⟨h.1,h.2.mono fun v w hh=>hn _ _ hh⟩
 ·exact⟨h.1,h.2.mono hE⟩
 ·exact hq _ _ _ h
 ·exact h.elim
theorem qiZ {F:Fence} {n:Nat} {all:Array Oper} {Q Q':Exit→Act→World→Prop} (hq: ∀e a w,Q e a w→Q' e a w): ∀(l:List Oper) (a:Act) (w:World),wpListIn F n P all Q l a w→wpListIn F n P all Q' l a w:=by
 intro l
 induction l with
 | nil=>exact fun a w h=>hq _ _ _ h
 | cons o l ih=>
   intro a w h
   simp only [wpListIn] at h ⊢
   split at h
   ·rename_i hw
    rw [if_pos hw]
    exact⟨h.1,qlc h.2 (fun a w h=>ih a w h) hq⟩
   ·rename_i hw
    rw [if_neg hw]
    exact⟨h.1,ih _ _ h.2⟩
theorem IOps.mono {all:Array Oper} {l:List Oper} {S:qaa} {Q Q':Exit→qaa→Prop} (h:IOps P h0 all l S Q) (hq: ∀e S,Q e S→Q' e S):IOps P h0 all l S Q':=
 fun M0 hM0 M a hs hr ro hro=>qiZ (fun _ _ _ ⟨M',S',h1,h2,h3,h4⟩=>⟨M',S',h1,h2,h3,hq _ _ h4⟩) _ _ _ (h M0 hM0 M a hs hr ro hro)
section
variable {fnc:Func} {h:IH} {K:Nat→List (Nat × IBlk)→Prop} {N:Nat} {s:List (Nat × IV)} {d:List IDef} {nx:Nat} {l:List (Nat × IBlk)}
end
attribute [go_sem] ddp
theorem ex_key {α β:Type} {b c:α} {x:β}:(∃y,(b,y)=(c,x))=(b=c):=by simp
attribute [go_sem] ex_key exists_or implies_true
theorem qem {Q:Exit→qaa→Prop} {k:List It} {S:qaa}:vc P h0 Q 0 k S=IRun P h0 k S Q:=by cases k<;>rfl
attribute [go_sem] List.all_cons List.all_nil Option.bind_some
end Go.Idl
/-
 Calls with blocks, their arguments as they are (nil stays nil).
-/
namespace Go.Idl
variable {P:Program} {h0:IH}
section
variable {Q:Exit→qaa→Prop} {k:List It} {all:Array Oper} {r:List Oper} {dst:Option Tmp} {ty:TypeId} {pos:String} {aft:Array Edge} {N:Nat} {s:List (Nat × IV)} {d:List IDef} {nx:Nat} {l:List (Nat × IBlk)}
 {g:Option (Nat × Bool)} {f:Operand} {args:List Operand} {ts:List TypeId} {K:qaa→List FP→Prop} {acc:List FP}
theorem qlY (n:Nat)
  (h:qap (qar (ev s) f args) (fun q=>(qam all s ⟨dst, .call {callee:= .value f,args:=⟨args⟩,argTypes:=⟨ts⟩},ty,pos,aft,g⟩=some true∧fnOk P q.1=true∧dOk N dst=true)∧
   qfH P q.1 q.2 (look (l++h0.m)) nx fun x cnt W _=>vc P h0 Q n (.ops all r::k) ⟨N,putS dst x s,d,nx+cnt,W++l⟩) False):
  IRun P h0 (.ops all (⟨dst, .call {callee:= .value f,args:=⟨args⟩,argTypes:=⟨ts⟩},ty,pos,aft,g⟩::r)::k) ⟨N,s,d,nx,l⟩ Q:=by
 cases hc:qar (ev s) f args with
 | none=>rw [hc] at h;exact h.elim
 | some q=>
   rw [hc,qaj] at h
   obtain⟨⟨h1,h2,h3⟩,args',R,cnt,x,W,ids,p1,⟨p2,p3,p4⟩,p5⟩:=h
   have hw:wks q.2 (rnms (ridx ids nx) args'):=by rw [p2];exact wks_refl _
   refine iops_call (S:=⟨N,s,d,nx,l⟩) rfl h1 hc h2 (by cases dst<;>simp_all [dOk,qay]) ((qeD (p1.icall (hp:=⟨nx,l++h0.m⟩) p3 p4) hw).mono ?_)
   rintro e nx' l' ⟨rfl,rfl,rfl⟩
   simp only [qaJ]
   exact vc_sound Q n _ _ p5
end
end Go.Idl
