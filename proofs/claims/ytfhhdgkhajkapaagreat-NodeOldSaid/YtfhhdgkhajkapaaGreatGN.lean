/- Facts that the proofs of this claim lean on. -/
import Derived.Test.YtfhhdgkhajkapaaGreatIdRn
import Derived.Test.YtfhhdgkhajkapaaGreatNMd
import Derived.Test.YtfhhdgkhajkapaaGreatNQB
import Derived.Test.YtfhhdgkhajkapaaGreatNzCl
import Derived.Lib.Overlaps
set_option linter.unusedSimpArgs false
set_option linter.unusedVariables false
/- A table's answers: the mode, what a letter leads to. -/
namespace Go.Proofs.NO
open Go Go.Idl Go.Proofs Go.GP Go.Proofs.Tryz
set_option maxHeartbeats 20000000
set_option maxRecDepth 100000
def qbX (f a d:Int):List (Int × Int × Int)→Int
 | []=>d
 | t::r=>if t.1=f∧t.2.1=a then t.2.2 else qbX f a d r
theorem qiL (T:List Nd) (n k:Nat) (x:Nd) (s:St) (hx:T[n]? =some x) (hq:x.states[k]? =some s):
  Pure prog 176 [.p (.imm 2 (pr eNd T)),sci .i64 n,sci .i64 k] (.tup [lSt s,scb true]):=by
 obtain⟨ln,ex⟩:=List.getElem?_eq_some_iff.1 hx
 obtain⟨st,ss⟩:=x
 obtain⟨lk,es⟩:=List.getElem?_eq_some_iff.1 hq
 simp only at lk es
 refine pcall0 200 (fn:=f176) func176 rfl (by simp [ntmps176]) zB zB fun hs=>?_
 simp (maxSteps:=2000000) only [go_sem,simprocAttr,maxLen] at hs
 try refine zW ?_
 (try simp (maxSteps:=2000000) (disch:=omega) only [go_sem,simprocAttr,zD,zE,eNd,ex,eSt,es])
theorem qo9 (T:List Nd) (n k:Nat) (x:Nd) (s:St) (hx:T[n]? =some x) (hq:x.states[k]? =some s):
  Pure prog 93 [.p (.imm 2 (pr eNd T)),sci .i64 n,sci .i64 k] (sci .i64 s.mode):=by
 refine pcall0 200 (fn:=f93) func93 rfl (by simp [ntmps93]) zB zB fun hs=>?_
 try refine zW ?_
 (refine zG ?_;refine callA_of (qiL T n k x s hx hq) zB ?_)
 ((try refine zO ?_);(try with_reducible exact True.intro))
theorem qom (T:List Nd) (n k:Nat) (x:Nd) (s:St) (hx:T[n]? =some x) (hq:x.states[k]? =some s) (f a:Int) (hk:s.takes.length≤1000000):
  Pure prog 102 [.p (.imm 2 (pr eNd T)),sci .i64 n,sci .i64 k,sci .i64 f,sci .i64 a] (sci .i64 (qbX f a k s.takes)):=by
 refine pcall0 200 (fn:=f102) func102 rfl (by simp [ntmps102]) zB zB fun hs=>?_
 try refine zW ?_
 (refine zG ?_;refine callA_of (qiL T n k x s hx hq) zB ?_)
 try refine zO ?_
 (refine walk_trim [2,3,4,23,24,25] trivial zL ?_;((try refine zW ?_);(try with_reducible exact True.intro)))
 refine qac 200 200 (fun i:Nat=>i≤s.takes.length∧qbX f a k (s.takes.drop i)=qbX f a k s.takes)
  (fun i=>⟨43, [(2,sci .i64 k),(3,sci .i64 f),(4,sci .i64 a),(23, .p (.imm 3 (pr eIII s.takes))),(24,sci .i64 s.takes.length),(25,sci .i64 i)], [],1, []⟩) (fun i=>s.takes.length - i) (0) [] ?_ ?_ ?_
 ·simp
 ·constructor<;>(try simp (disch:=omega) only [go_sem,simprocAttr,zD,zE,Int.natCast_zero,List.take_of_length_le,List.append_assoc])
 ·rintro i hi
  obtain⟨hi,hinvi⟩:=hi
  try refine zW ?_
  by_cases li:i < s.takes.length
  ·rw [qba li,qbX] at hinvi
   (try simp (disch:=omega) only [go_sem,simprocAttr,zD,zE,eIII])
   generalize s.takes[i]=t at *
   obtain⟨t1,t2,t3⟩:=t
   simp only at hinvi
   by_cases h1:t1=f
   ·by_cases h2:t2=a
    ·rw [if_pos ⟨h1,h2⟩] at hinvi
     (try simp (disch:=omega) only [go_sem,simprocAttr,zD,zE,h1,h2,←hinvi])
    ·rw [if_neg fun q=>h2 q.2] at hinvi
     (try simp (disch:=omega) only [go_sem,simprocAttr,zD,zE,h1,h2])
     refine⟨i+1, [],⟨li,hinvi⟩,by omega,?_⟩
     constructor<;>((try refine zO ?_);(try with_reducible exact True.intro))
   ·rw [if_neg fun q=>h1 q.1] at hinvi
    (try simp (disch:=omega) only [go_sem,simprocAttr,zD,zE,h1])
    refine⟨i+1, [],⟨li,hinvi⟩,by omega,?_⟩
    constructor<;>((try refine zO ?_);(try with_reducible exact True.intro))
  ·obtain rfl:i=s.takes.length:=by omega
   rw [List.drop_length,qbX] at hinvi
   (try simp (disch:=omega) only [go_sem,simprocAttr,zD,zE,←hinvi])
theorem indexL_at (a:Int) (l:List Int):indexL a 0 l= -1∨ ∃j:Nat,indexL a 0 l=(j:Int)∧j < l.length∧l[j]? =some a:=by
 rcases indexL_at' a l 0 with e | ⟨j,e,h⟩
 ·exact .inl e
 ·exact .inr ⟨j,by rw [e,Nat.zero_add],h⟩
def lenAt {α:Type} (l:List (List α)) (i:Int):Int:=if i < 0 then 0 else((l[i.toNat]?).getD []).length
theorem qju {α:Type} (l:List (List α)):lenAt l (-1)=0:=rfl
theorem qjv {α:Type} {l:List (List α)} {j:Nat} (h:j < l.length):lenAt l (j:Int)=(l[j].length:Int):=by
 unfold lenAt
 rw [if_neg (by omega),Int.toNat_natCast,List.getElem?_eq_getElem h,Option.getD_some]
def zHs:Hs:=⟨0,0,0, [], []⟩
end Go.Proofs.NO
/- An end whose new blocks are numbered at will. -/
namespace Go.Idl
open Go
section
variable {P:Program} {fn:Func} {m:List (Nat × IBlk)} {c:Nat} {x:IV} {W:List (Nat × IBlk)} {N:Nat} {s:List (Nat × IV)} {nx:Nat} {l:List (Nat × IBlk)}
end
end Go.Idl
/- A configuration with lists of its own, all of them held. -/
namespace Go.Proofs.NO
open Go Go.Idl Go.Proofs Go.GP Go.Proofs.Tryz
set_option maxHeartbeats 20000000
set_option maxRecDepth 100000
structure Sp where
 kind:Int
 node:Int
 k:Int
 link:Int
 seq:Int
structure Cf where
 S:List Int
 L:List (List (Int × Int))
 E:List Int
end Go.Proofs.NO
/-
 Where a slice's room is asked for: the run by hand, at one memory.
-/
namespace Go.Idl
variable {P:Program} {h0:IH}
theorem qqI {c:Code} {k:List It} {S:qaa} {Q:Exit→qaa→Prop} (h: ∀M0,HRel h0.nx h0.m M0→ ∀M a,qae M0 M→SRel h0 S M a→ ∀ro,RoOk ro (ndC c)→c.wpIn (Wd ro) 0 P (qcA h0 M0 fun e S'=>after P h0 Q k e S') a M.w):
  IRun P h0 (.code c::k) S Q:=h
theorem qqk {c:Code} {k:List It} {S:qaa} {Q:Exit→qaa→Prop} (h:IRun P h0 (.code c::k) S Q) {M0:Mem} (hM0:HRel h0.nx h0.m M0) {M:Mem} {a:Act} (hs:qae M0 M) (hr:SRel h0 S M a) {ro:Option Nat} (hro:RoOk ro (ndC c)):
  c.wpIn (Wd ro) 0 P (qcA h0 M0 fun e S'=>after P h0 Q k e S') a M.w:=h M0 hM0 M a hs hr ro hro
theorem fop_nd {o:Oper} {ρ:Operand→Option IV} {G:Nat→Option IBlk} {nx:Nat} {all:Array Oper} {dst:Option Tmp} {fr:FR} (h:fop P ρ G nx all dst o.op=some fr):ndOp o=true:=by
 unfold ndOp
 cases ho:o.op<;>first | rfl | (rw [ho] at h;cases h)
theorem wp_fop {ro:Option Nat} {all:Array Oper} {o:Oper} {r:List Oper} {S:qaa} {M:Mem} {a:Act} {fr:FR} {Qx:Exit→Act→World→Prop} (hr:SRel h0 S M a) (hw:qai all S.s o=some true)
  (hf:fop P (ev S.s) (look (S.l++h0.m)) S.nx all o.dst o.op=some fr) (hd:qaE S o.dst=true)
  (h: ∀v M',qae M M'→SRel h0 (S.put o.dst fr.x (S.nx+fr.F.length) fr.W.reverse) M' (a.put o.dst v)→wpListIn (Wd ro) 0 P all Qx r (a.put o.dst v) M'.w):wpListIn (Wd ro) 0 P all Qx (o::r) a M.w:=by
 obtain⟨hdo,hfit⟩:=fop_sound hf
 refine wpListW_step (.inr (fop_nd hf)) fun K hK=>?_
 rw [if_pos (qa4 hr hw)]
 refine hdo M a hr.heap.rel (fun p hp=>by rw [hr.heap.G];exact hfit.reads p hp) (fun b hb=>?_) (fun y _ z hz=>qaH hr.slot hz) K _ fun v M' st rel hH hv=>?_
 ·rcases hfit.new with ⟨hF,_⟩ | ⟨hF,_⟩
  ·rw [hF] at hb;cases hb
  ·rw [hF] at hb
   simp only [List.mem_cons,List.not_mem_nil,or_false] at hb
   subst hb
   exact fun hb=>Nat.lt_irrefl _ (hr.heap.A _ hb)
 ·refine hK _ _ (h v M' st (hr.step st hd hv ?_))
  have:=hr.heap.upd rel hH (S.nx+fr.F.length) (fits_dom hr.heap hfit)
  rw [List.append_assoc]
  exact this
theorem keep_β {M M':Mem} (st:qae M M') {b:Nat} {blk:IBlk} (hA:M.H.A b) (h:M.H.G b=some blk) (h':M'.H.G b=some blk):M'.β b=M.β b:=by
 obtain⟨blk0,e0,_,_,_,he⟩:=st.comp b blk hA h'
 rw [h] at e0;cases e0;exact(he rfl).1
theorem wp_cap {ro:Option Nat} {all:Array Oper} {y:Operand} {T ty e:TypeId} {pos:String} {aft:Array Edge} {dst:Option Tmp} {r:List Oper} {S:qaa} {M:Mem} {a:Act} {Qx:Exit→Act→World→Prop} {b g off len sz:Nat} {rows:List (List IV)}
  (hr:SRel h0 S M a) (ht:tel P T=some e) (hy:ev S.s y=some (.ref b g off len)) (hb:look (S.l++h0.m) b=some (.arr sz g rows)) (hd:qaE S dst=true)
  (h: ∀(ad:Option Addr) (cap:Nat),a.eval y= .slice ad len cap→qdl (M.β b) sz rows.length off len (.slice ad len cap)→
   SRel h0 (S.put dst (sci .i64 cap) S.nx []) M (a.put dst (.int .i64 cap))→wpListIn (Wd ro) 0 P all Qx r (a.put dst (.int .i64 cap)) M.w):
  wpListIn (Wd ro) 0 P all Qx (⟨dst, .call {callee:= .builtin .cap,args:=#[y],argTypes:=#[T]},ty,pos,aft,none⟩::r) a M.w:=by
 refine wpListW_step (.inr rfl) fun K hK=>?_
 rw [if_pos (qa4 hr (show qai all S.s ⟨dst,_,ty,pos,aft,none⟩=some true from rfl))]
 have hv:=qaH hr.slot hy
 have hG:M.H.G b=some (.arr sz g rows):=by rw [hr.heap.G];exact hb
 have hok:qdl (M.β b) sz rows.length off len (a.eval y):=by
  generalize a.eval y=q at hv
  cases hv with
  | ref _ _ _ _ _ hA hv h=>exact(h _ hG).2 rfl
 obtain⟨ad,cap,e1,e2⟩:=id hok
 rw [e1] at hok
 have hrun:(execOp a.eval ⟨dst, .call {callee:= .builtin .cap,args:=#[y],argTypes:=#[T]},ty,pos,aft,none⟩).run P M.w= .ok (.value (.int .i64 cap)) M.w:=by
  simp [execOp,resolve,invoke,builtin,e1,Builtin.cap_,run_underlying (und_tel ht),goInt]
 unfold Oper.wp
 rw [hrun]
 exact hK _ _ (h ad cap e1 hok (hr.step (.refl M) hd (.p _ _ (.sc _)) hr.heap))
theorem qrR {M:Mem} (h:MRel M) {b sz g:Nat} {rows:List (List IV)} {c o n:Nat} (hb:M.H.G b=some (.arr sz g rows)) (hβ:M.β b=some (c,o,n)) (g' n':Nat) (rows':List (List IV)) (hg:g < g')
  (hB: ∀M':Mem,qae M M'→M'.w=M.w→M'.β b=some (c,o,n')→BRel M' b (.arr sz g' rows')):
  qae M ⟨M.w,M.H.put b (.arr sz g' rows'),putβ M.β b (some (c,o,n'))⟩∧MRel ⟨M.w,M.H.put b (.arr sz g' rows'),putβ M.β b (some (c,o,n'))⟩:=by
 have hown:M.own c:= .inr ⟨b,_,o,n,hb,hβ⟩
 have s:qae M ⟨M.w,M.H.put b (.arr sz g' rows'),putβ M.β b (some (c,o,n'))⟩:=by
  refine⟨rfl,rfl,rfl,Nat.le_refl _,fun c' hc' ho=>⟨rfl,?_⟩,fun _ h=> .inl h,fun b' blk' hA' hb'=>?_,rfl,fun c' hc'=>rfl⟩
  ·rintro(hO | ⟨b',blk,o'',n'',hb',hc''⟩)
   ·exact ho (.inl hO)
   by_cases e:b'=b
   ·simp only [putβ,e,if_true,Option.some.injEq,Prod.mk.injEq] at hc''
    exact ho (hc''.1 ▸hown)
   ·simp only [AH.put,putβ,e,if_false] at hb' hc''
    exact ho (.inr ⟨b',blk,o'',n'',hb',hc''⟩)
  ·by_cases e:b'=b
   ·subst e
    simp only [AH.put,if_true,Option.some.injEq] at hb'
    subst hb'
    exact⟨_,hb,rfl,rfl,Nat.le_of_lt hg,fun e=>by simp only [IBlk.gen] at e;omega⟩
   ·simp only [AH.put,e,if_false] at hb'
    exact⟨blk',hb',rfl,rfl,Nat.le_refl _,fun _=>⟨by simp [putβ,e],rfl⟩⟩
 refine⟨s,h.change s b (.inr rfl) ?_ ?_ ?_ ?_ ?_ ?_⟩
 ·intro b' e;simp [AH.put,e]
 ·intro b' e;simp [putβ,e]
 ·intro b' blk c' o'' n'' e hb' hc';rfl
 ·intro blk' hb'
  simp only [AH.put,if_true,Option.some.injEq] at hb'
  subst hb'
  exact hB _ s rfl (by simp [putβ])
 ·intro blk' c' o'' n'' hb' hc' b' blk o3 n3 e hb'' hc''
  simp only [putβ,if_true,Option.some.injEq,Prod.mk.injEq] at hc'
  obtain⟨rfl,rfl,rfl⟩:=hc'
  exact e (h.inj b' b blk _ c o3 n3 o n hb'' hb hc'' hβ)
 ·intro blk' c' o'' n'' _ hc' hO
  simp only [putβ,if_true,Option.some.injEq,Prod.mk.injEq] at hc'
  obtain⟨rfl,rfl,rfl⟩:=hc'
  exact h.odis b _ c o n hb hβ hO
theorem qlX {S:qaa} {M:Mem} {a:Act} (hr:SRel h0 S M a) {b sz g t:Nat} {rows:List (List IV)} {c o n:Nat} (hb:look (S.l++h0.m) b=some (.arr sz g rows)) (hβ:M.β b=some (c,o,n)) (g' n':Nat) (rows':List (List IV))
  (hg:g < g') (hB: ∀M':Mem,qae M M'→M'.w=M.w→M'.β b=some (c,o,n')→BRel M' b (.arr sz g' rows')) {v:Value} (hv:a.tmps[t]? =some v) {len:Nat} (hrf:qdl (some (c,o,n')) sz rows'.length 0 len v):
  ∃M',M'.w=M.w∧qae M M'∧M'.β b=some (c,o,n')∧SRel h0 ⟨S.n,(t, .ref b g' 0 len)::S.s,S.d,S.nx,(b, .arr sz g' rows')::S.l⟩ M' a:=by
 have hG:M.H.G b=some (.arr sz g rows):=by rw [hr.heap.G];exact hb
 obtain⟨st,rel⟩:=qrR hr.heap.rel hG hβ g' n' rows' hg hB
 refine⟨⟨M.w,M.H.put b (.arr sz g' rows'),putβ M.β b (some (c,o,n'))⟩,rfl,st,by simp [putβ],⟨⟨rel,fun b' hb'=>?_,fun b'=>?_⟩,hr.size,fun i y hy=>?_,hr.defs.step st⟩⟩
 ·rcases hb' with hb' | rfl
  ·exact hr.heap.A _ hb'
  ·exact hr.heap.A _ (hr.heap.rel.dom _ _ hG)
 ·simp only [AH.put,List.cons_append,look]
  by_cases e:b'=b
  ·subst e;simp
  ·rw [if_neg e,if_neg (fun h=>e h.symm)];exact hr.heap.G b'
 ·simp only [look] at hy
  split at hy
  ·rename_i e
   subst e
   cases hy
   obtain⟨ad,cap,e1,_⟩:=id hrf
   refine⟨v,hv, .ref b g' 0 len v (.inr rfl) ⟨ad,cap,e1⟩ fun blk hblk=>?_⟩
   simp only [AH.put,if_true,Option.some.injEq] at hblk
   subst hblk
   exact⟨Nat.le_refl _,fun _=>by simp only [putβ,if_true];exact hrf⟩
  ·obtain⟨u,u1,u2⟩:=hr.slot i y hy
   exact⟨u,u1,u2.step st⟩
theorem qph {M M':Mem} {b sz g g':Nat} {rows:List (List IV)} {c o n:Nat} (h:BRel M b (.arr sz g rows)) (hβ:M.β b=some (c,o,n)) (st:qae M M') (hw:M'.w=M.w) (hβ':M'.β b=some (c,o,rows.length)):BRel M' b (.arr sz g' rows):=by
 obtain⟨r1,r2,r3⟩:=h
 obtain⟨cs,ty,q1,q2,q3,q4,q5⟩:=r3 c o n hβ
 refine⟨r1,fun hn=>(by rw [hβ'] at hn;cases hn),fun c' o' n' hc'=>?_⟩
 rw [hβ'] at hc'
 cases hc'
 refine⟨cs,ty,by rw [hw];exact q1,Nat.le_refl _,by omega,q4.sub (Nat.le_refl _) (Nat.add_le_add_left (Nat.mul_le_mul_right _ q2) _),fun i row j x hi hj=>?_⟩
 obtain⟨v,v1,v2,v3⟩:=q5 i row j x hi hj
 exact⟨v,v1,v2,v3.step st⟩
theorem qpi {M:Mem} {b sz g g':Nat} {rows:List (List IV)} {c o n:Nat} (h:BRel M b (.arr sz g rows)) (hβ:M.β b=some (c,o,n)) (hn:rows.length < n):
  ∃raw:List Value,raw.length=sz∧ ∀M':Mem,qae M M'→M'.w=M.w→M'.β b=some (c,o,n)→BRel M' b (.arr sz g' (rows++ [raw.map fun v=> .p (.sc v)])):=by
 obtain⟨r1,r2,r3⟩:=h
 obtain⟨cs,ty,q1,q2,q3,q4,q5⟩:=r3 c o n hβ
 have hk:(rows.length+1) * sz≤n * sz:=Nat.mul_le_mul_right _ hn
 rw [Nat.add_mul,Nat.one_mul] at hk
 have hsz:=q4.1
 refine⟨(List.range sz).map fun j=>cs[o+(rows.length * sz+j)]!,by simp,fun M' st hw hβ'=>⟨fun row hrow=>?_,fun hn=>(by rw [hβ'] at hn;cases hn),fun c' o' n' hc'=>?_⟩⟩
 ·rcases List.mem_append.1 hrow with h | h
  ·exact r1 row h
  ·rw [List.mem_singleton.1 h];simp
 ·rw [hβ'] at hc'
  cases hc'
  refine⟨cs,ty,by rw [hw];exact q1,by simp;omega,q3,q4,fun i row j x hi hj=>?_⟩
  rw [List.getElem?_append] at hi
  split at hi
  ·obtain⟨v,v1,v2,v3⟩:=q5 i row j x hi hj
   exact⟨v,v1,v2,v3.step st⟩
  ·have hi0:i - rows.length=0:=by
    have:=qab hi
    simpa using this
   rw [hi0] at hi
   simp only [List.getElem?_cons_zero,Option.some.injEq] at hi
   subst hi
   have hjs:j < sz:=by have:=qab hj;simpa using this
   have hil:i=rows.length:=by omega
   subst hil
   have hlt:o+(rows.length * sz+j) < cs.size:=by omega
   rw [List.getElem?_map,List.getElem?_map,List.getElem?_range hjs] at hj
   simp only [Option.map_some,Option.some.injEq] at hj
   subst hj
   have hget:cs[o+(rows.length * sz+j)]? =some cs[o+(rows.length * sz+j)]! :=by rw [getElem!_pos cs _ hlt,Array.getElem?_eq_getElem hlt]
   exact⟨_,hget,q4.2 _ _ (by omega) hget, .p _ _ (.sc _)⟩
theorem qgB {t1 t2 ty e:TypeId} {sz by_:Nat} {zs olds:List Value} {i:TypeInfo} {z:Value} {ki:IntKind} (u1:P.underlying t1=some (.slice e)) (u2:P.underlying t2=some (.int ki))
  (inf:P.info? e=some i) (size:i.size=sz) (bytes:i.bytes=by_) (zero:i.zero=some z) (zcl:z.cells=⟨zs⟩) (zl:zs.length=sz)
  {k:IntKind} {sLen sCap n:Nat} {base:Option Addr} {w:World} (ho:(Builtin.firstCells sz sLen (.slice base sLen sCap)).run P w.drew= .ok ⟨olds⟩ w.drew)
  (h0:0 < n) (hgr:sCap < sLen+n) (h63:sLen+n≤maxLen) (hby:(sLen+n) * by_≤140737488355328):
  (Builtin.append_ #[t1,t2] ty #[.slice base sLen sCap, .int k (n:Int)]).run P w=
   .ok (.slice (some ⟨w.heap.size,0,none⟩) (sLen+n) (grownCap w (sLen+n) sCap e))
    (w.drew.alloc (.cells (⟨olds⟩++(if n * sz=0 then #[] else Builtin.zeroCells z.cells n)++Builtin.zeroCells z.cells (grownCap w (sLen+n) sCap e - (sLen+n))) e)):=by
 have hs: ∀w,(sizeOf e).run P w= .ok sz w:=qaC (show tsz P e=some sz by simp [tsz,inf,size])
 have hn: ¬(sLen+n≤sCap):=by omega
 have hfit:=growslice_fits hgr hby
 have h48: ¬(Builtin.nextslicecap (sLen+n) sCap * by_ > 2 ^ 48):=by simp only [Nat.reducePow];omega
 have hmx:IntKind.i64.max=9223372036854775807:=by decide
 have hw:IntKind.i64.wrap (n:Int)=n:=by
  unfold maxLen at h63
  rw [IntKind.wrap_i64];omega
 have hl0: ¬((n:Int) < 0):=by omega
 have hb0: ¬((n:Int) * (by_:Int) > 2 ^ 48):=by
  have h1:(n:Int) * (by_:Int)=((n * by_:Nat):Int):=by simp
  have h2:n * by_≤(sLen+n) * by_:=Nat.mul_le_mul_right _ (by omega)
  rw [h1];omega
 have hti: ∀w,(typeInfo e).run P w= .ok i w:=fun w=>by simp [typeInfo,inf]
 have hze: ∀w,(zeroValue e).run P w= .ok z w:=fun w=>by simp [zeroValue,typeInfo,inf,zero]
 have hch: ∀w,(choose (.appendCap (sLen+n) sCap e)).run P w= .ok (grownCap w (sLen+n) sCap e) w.drew:=fun w=>by simp [Question.forced,grownCap]
 have has: ∀w,(asInt (.int k (n:Int))).run P w= .ok (n:Int) w:=fun w=>by simp [asInt,asIntOf]
 have hgt: ¬(((sLen+n:Nat):Int) > IntKind.i64.max∧(True∨by_=0)):=by
  rw [hmx];unfold maxLen at h63;omega
 unfold Builtin.append_
 simp only [List.getElem?_toArray,List.getElem?_cons_zero,List.getElem?_cons_succ,Sem.run_bind,run_underlying u1,Result.andThen_ok,run_underlying u2,Sem.run_pure,hs,if_true,has,hw,hl0,if_false,hti,bytes,hb0,Int.toNat_natCast,hn,
  hgt,h48,hch,run_askRoom,ho,Bool.not_true,Bool.false_eq_true]
 by_cases hz:n * sz=0
 ·simp only [hz,if_true,if_false,hn,hgt,Sem.run_pure,Result.andThen_ok,Sem.run_bind,hti,bytes,h48,hch,run_askRoom,ho,hze,newRow,run_newObj,World.alloc_eq,World.size_drew]
 ·simp only [hz,if_true,if_false,hn,hgt,Sem.run_pure,Result.andThen_ok,Sem.run_bind,hti,bytes,h48,hch,run_askRoom,ho,hze,newRow,run_newObj,World.alloc_eq,World.size_drew]
theorem qo1 {ro:Option Nat} {all:Array Oper} {y x:Operand} {t1 t2 ty e:TypeId} {pos:String} {aft:Array Edge} {dst:Option Tmp} {r:List Oper} {S:qaa} {M:Mem} {a:Act} {Qx:Exit→Act→World→Prop}
  {b g c o i k sz by_:Nat} {rows:List (List IV)} {zs:List Value} {ki kj:IntKind} (hr:SRel h0 S M a) (hy:ev S.s y=some (.ref b g 0 i)) (hx:ev S.s x=some (sci kj (k:Int))) (hb:look (S.l++h0.m) b=some (.arr sz g rows))
  (hβ:M.β b=some (c,o,rows.length)) (ht1:tel P t1=some e) (ht2:P.underlying t2=some (.int ki)) (hsz:tsz P e=some sz) (hby:tby P e=some by_) (hze:tze P e=some zs) (hz1:zs.length=sz) (hz2:zs.all (·.oneCell')=true)
  (hi:i≤rows.length) (hlt:rows.length < i+k) (hk:0 < k) (hbig:(i+k) * by_≤140737488355328) (h63:i+k≤9223372036854775807) (hd:qaE S dst=true)
  (h: ∀v M',qae M M'→SRel h0 (S.put dst (.ref S.nx 0 0 (i+k)) (S.nx+1) [(S.nx, .arr sz 0 (rows.take i++List.replicate k (zcs zs)))]) M' (a.put dst v)→wpListIn (Wd ro) 0 P all Qx r (a.put dst v) M'.w):
  wpListIn (Wd ro) 0 P all Qx (⟨dst, .call {callee:= .builtin .append,args:=#[y,x],argTypes:=#[t1,t2]},ty,pos,aft,none⟩::r) a M.w:=by
 refine wpListW_step (.inr rfl) fun K hK=>?_
 rw [if_pos (qa4 hr (show qai all S.s ⟨dst,_,ty,pos,aft,none⟩=some true from rfl))]
 have hM:=hr.heap.rel
 have hv:=qaH hr.slot hy
 have e2:=(qaH hr.slot hx).sc_inv
 have hG:M.H.G b=some (.arr sz g rows):=by rw [hr.heap.G];exact hb
 have hF: ¬M.H.A S.nx:=fun h=>Nat.lt_irrefl _ (hr.heap.A _ h)
 have hok:qdl (M.β b) sz rows.length 0 i (a.eval y):=by
  generalize a.eval y=q at hv
  cases hv with
  | ref _ _ _ _ _ hA hv h=>exact(h _ hG).2 rfl
 obtain⟨ad,cap,e1,c1,c2,c3,c4⟩:=hok
 have hcap:cap≤rows.length:=by
  rcases c4 with h | ⟨c',o',n',h1,_,h3⟩
  ·omega
  ·rw [hβ] at h1;cases h1;omega
 cases hinf:P.info? e with
 | none=>simp [tsz,hinf] at hsz
 | some inf=>
   simp only [tsz,tby,tze,hinf,Option.map_some,Option.some.injEq,Option.bind_some] at hsz hby hze
   cases hiz:inf.zero with
   | none=>simp [hiz] at hze
   | some z=>
     simp only [hiz,Option.map_some,Option.some.injEq] at hze
     have hzc:z.cells=⟨zs⟩:=by rw [←hze]
     have hzl:z.cells.size=sz:=by rw [hzc];simpa using hz1
     have s1:=qae.drew M
     have hM1:=hM.drew
     have hap:iapp M.H.G sz (.ref b g 0 i)=some (rows.take i, [(b, .arr sz g rows)]):=by
      simp [iapp,qco,hG]
     have hRm: ∀p∈ [(b,IBlk.arr sz g rows)],M.H.G p.1=some p.2:=by simp [hG]
     obtain⟨olds,hA⟩:=qbz (P:=P) hap hM1 hRm (hv.step s1)
     have hl:(rows.take i).length=i:=by rw [List.length_take];omega
     have hget:=hA.get
     rw [hl,e1] at hget
     have hnl:=hA.nl
     rw [hl] at hnl
     have hrun:=qgB (P:=P) (ty:=ty) (und_tel ht1) ht2 hinf hsz hby hiz hzc hz1 (k:=kj) (sLen:=i) (sCap:=cap) (n:=k) (base:=ad) (w:=M.w) hget hk (by omega) (by unfold maxLen;omega) hbig
     have hge:=grownCap_ge M.w (i+k) cap e
     have hmx:=grownCap_le_maxLen M.w (i+k) cap e (by unfold maxLen;omega)
     generalize grownCap M.w (i+k) cap e=C at *
     have hrest:(Builtin.zeroCells z.cells (C - (i+k))).size=(C - (i+k)) * sz:=by rw [←Array.length_toList,qbw,hzl]
     have hnew:(if k * sz=0 then #[] else Builtin.zeroCells z.cells k).size=k * sz:=by
      split
      ·rename_i h0;rw [h0];rfl
      ·rw [←Array.length_toList,qbw,hzl]
     have hz3: ∀u∈z.cells.toList,u.oneCell'=true:=fun u hu=>by
      rw [hzc] at hu
      exact List.all_eq_true.1 hz2 u hu
     have hza:=qcs (⟨M.w.drew,M.H,M.β⟩:Mem) hz2
     obtain⟨s2,r2⟩:=qda hM1 S.nx hF sz 0 C (rows.take i++List.replicate k (zcs zs)) (⟨olds⟩++(if k * sz=0 then #[] else Builtin.zeroCells z.cells k)++Builtin.zeroCells z.cells (C - (i+k))) e
      (by
       intro row hrow
       rcases List.mem_append.1 hrow with h | h
       ·exact hA.wid row h
       ·rw [List.eq_of_mem_replicate h];simpa [zcs] using hz1)
      (by rw [List.length_append,hl,List.length_replicate];exact hge) hmx
      (qbi.all (by
       rw [Array.size_append,Array.size_append,hnew,hrest,List.size_toArray,hnl,←Nat.add_mul,←Nat.add_mul]
       exact Nat.mul_le_mul_right _ (by omega)) (by
       intro v hv
       rw [Array.toList_append,Array.toList_append,List.mem_append,List.mem_append] at hv
       rcases hv with (h | h) | h
       ·exact hA.one v h
       ·split at h
        ·simp at h
        ·exact zeroCells_one hz3 v h
       ·exact zeroCells_one hz3 v h))
      (by
       have key:=qfu (M:= {M with w:=M.w.drew}) (rs:=rows.take i) (rx:=List.replicate k (zcs zs)) (sz:=sz) (o':=0) (a:=⟨olds⟩++(if k * sz=0 then #[] else Builtin.zeroCells z.cells k)++Builtin.zeroCells z.cells (C - (i+k)))
        (by
         intro i' row j y hi hj
         obtain⟨u,u1,u2,u3⟩:=hA.rel i' row j y hi hj
         refine⟨u,?_,u2,u3⟩
         have hlt:=qab u1
         rw [Nat.zero_add,Array.getElem?_append,if_pos (by simp only [Array.size_append,List.size_toArray];omega),Array.getElem?_append,if_pos (by simpa using hlt)]
         simpa using u1)
        (by
         intro i' row j y hi' hj
         have hi2:i' < k:=by have:=qab hi';simpa using this
         rw [List.getElem?_replicate,if_pos hi2] at hi'
         cases hi'
         obtain⟨v,v1,v2,v3⟩:=hza.get hj
         have hjl:j < zs.length:=qab v1
         refine⟨v,?_,v2,v3⟩
         have hlt:i' * sz+j < k * sz:=qb6 hi2 (by omega)
         rw [hl,Nat.zero_add,Array.getElem?_append,if_pos (by simp only [Array.size_append,List.size_toArray,hnew,hnl];omega),Array.getElem?_append,if_neg (by simp only [List.size_toArray,hnl];omega),if_neg (by omega),List.size_toArray,hnl,
          Nat.add_sub_cancel_left,←Array.getElem?_toList,qcC (by rw [hzl];exact hlt),hzl,Nat.mul_comm,Nat.mul_add_mod,Nat.mod_eq_of_lt (by omega),hzc]
         simpa using v1)
       intro i' row j y hi hj
       have:=key i' row j y hi hj
       simpa using this)
     have hwp:(execOp a.eval ⟨dst, .call {callee:= .builtin .append,args:=#[y,x],argTypes:=#[t1,t2]},ty,pos,aft,none⟩).run P M.w= .ok (.value (.slice (some ⟨M.w.heap.size,0,none⟩) (i+k) C)) (M.w.drew.alloc (.cells (⟨olds⟩++(if k * sz=0 then #[] else Builtin.zeroCells z.cells k)++Builtin.zeroCells z.cells (C - (i+k))) e)):=by
      simp only [execOp,resolve,invoke,builtin,Sem.run_bind,Sem.run_pure,Result.andThen_ok,List.map_toArray,List.map_cons,List.map_nil,e1,e2,hrun]
     unfold Oper.wp
     rw [hwp]
     have st:=s1.trans s2
     refine hK _ _ (h _ _ st (hr.step st hd (.ref S.nx 0 0 (i+k) _ (.inr rfl) ⟨_,_,rfl⟩ fun blk hblk=>?_) ?_))
     ·simp only [AH.put,if_true,Option.some.injEq] at hblk
      subst hblk
      exact⟨Nat.le_refl _,fun _=>⟨_,C,rfl,hge,by simp [IBlk.len,hl],by simp [IBlk.len,hl];exact hge, .inr ⟨M.w.heap.size,0,C,by simp [putβ],by simp,by omega⟩⟩⟩
     ·have:=hr.heap.upd r2 (W:= [(S.nx, .arr sz 0 (rows.take i++List.replicate k (zcs zs)))]) rfl (S.nx+1) (fun b hb=>by
       rcases hb with hb | ⟨blk,hb⟩
       ·omega
       ·simp only [List.mem_singleton,Prod.mk.injEq] at hb;omega)
      rw [List.append_assoc]
      exact this
theorem qmX (n:Nat) {Q:Exit→qaa→Prop} {k:List It} {all:Array Oper} {r:List Oper} {dst:Option Tmp} {ty:TypeId} {pos:String} {aft:Array Edge} {N:Nat} {s:List (Nat × IV)} {d:List IDef} {nx:Nat} {l:List (Nat × IBlk)}
  {f x y:Operand} {ts:Array TypeId} {F:FuncId} {fn:Func} {T T' e:TypeId} {b1 g1 off1 len1 b2 g2 off2 len2 sz s1 s2:Nat} {rows1 rows2:List (List IV)}
  (hf:ev s f=some (.p (.sc (.func (.func F) #[] #[])))) (hfn:P.funcs[F]? =some fn) (hname:(fn.name== "runtime.NumGoroutine")=false) (hbody:fn.body.isNone=true) (hnx:Extern.findNext fn=none)
  (he:Extern.find fn=some (Extern.SlicesOverlaps.overlaps #[T,T] #[T'])) (ht:tel P T=some e) (hsz:tsz P e=some sz)
  (hx:ev s x=some (.ref b1 g1 off1 len1)) (hy:ev s y=some (.ref b2 g2 off2 len2)) (hne:b1≠b2) (hl1:0 < len1) (hl2:0 < len2) (hsz0:0 < sz)
  (hb1:look (l++h0.m) b1=some (.arr s1 g1 rows1)) (hb2:look (l++h0.m) b2=some (.arr s2 g2 rows2)) (hs2:s2=sz) (hd:dOk N dst=true)
  (h:vc P h0 Q n (.ops all r::k) ⟨N,putS dst (scb false) s,d,nx,l⟩):
  IRun P h0 (.ops all (⟨dst, .call {callee:= .value f,args:=#[x,y],argTypes:=ts},ty,pos,aft,none⟩::r)::k) ⟨N,s,d,nx,l⟩ Q:=by
 intro M0 hM0 M a hs hr ro hro
 refine wpListW_step (hro.mem (List.mem_cons_self ..)) fun K hK=>?_
 rw [if_pos (qa4 hr (show qai all s ⟨dst,_,ty,pos,aft,none⟩=some true from rfl))]
 have hM:=hr.heap.rel
 have ef:=(qaH hr.slot hf).sc_inv
 have vx:=qaH hr.slot hx
 have vy:=qaH hr.slot hy
 have G1:M.H.G b1=some (.arr s1 g1 rows1):=by rw [hr.heap.G];exact hb1
 have G2:M.H.G b2=some (.arr s2 g2 rows2):=by rw [hr.heap.G];exact hb2
 have ok1:qdl (M.β b1) s1 rows1.length off1 len1 (a.eval x):=by
  generalize a.eval x=q at vx
  cases vx with
  | ref _ _ _ _ _ hA hv h=>exact(h _ G1).2 rfl
 have ok2:qdl (M.β b2) s2 rows2.length off2 len2 (a.eval y):=by
  generalize a.eval y=q at vy
  cases vy with
  | ref _ _ _ _ _ hA hv h=>exact(h _ G2).2 rfl
 obtain⟨a1,cap1,e1,p1,p2,p3,p4⟩:=ok1
 obtain⟨a2,cap2,e2,q1,q2,q3,q4⟩:=ok2
 obtain⟨c1,o1,n1,B1,A1,C1⟩:=p4.resolve_left (by omega)
 obtain⟨c2,o2,n2,B2,A2,C2⟩:=q4.resolve_left (by omega)
 obtain⟨_,_,w1⟩:=hM.blk b1 _ G1
 obtain⟨_,_,w2⟩:=hM.blk b2 _ G2
 obtain⟨cs1,ty1,H1,_,_,R1,_⟩:=w1 c1 o1 n1 B1
 obtain⟨cs2,ty2,H2,_,_,R2,_⟩:=w2 c2 o2 n2 B2
 have hcc:c1≠c2:=fun e=>hne (hM.inj _ _ _ _ c1 o1 n1 o2 n2 G1 G2 B1 (e ▸B2))
 have hk2:cs2.size≠0:=by
  have h1:=R2.1
  have:1 * sz≤n2 * sz:=Nat.mul_le_mul_right _ (by omega)
  rw [←hs2] at this
  omega
 have hrun:(callFunc F #[a.eval x,a.eval y]).run P M.w= .ok (.value (.bool false)) M.w:=by
  rw [run_callFunc_extern hfn hname hbody hnx he,e1,e2,A1,A2,
   Lib.run_overlaps_apart M.w T T' e (und_tel ht) sz (qaC hsz) _ _ _ _ _ _ (by simpa using hcc) ty1 ty2 cs1.size cs2.size (by simp [World.shape?,H1]) (by simp [World.shape?,H2]) hk2 (by simp [World.frozen?,H1]) (by simp [World.frozen?,H1])]
  rfl
 have hwp:(execOp a.eval ⟨dst, .call {callee:= .value f,args:=#[x,y],argTypes:=ts},ty,pos,aft,none⟩).run P M.w= .ok (.value (.bool false)) M.w:=by
  simp only [execOp,resolve,ef,Deferred.ofValue,Sem.run_bind,Sem.run_pure,Result.andThen_ok,invoke]
  simp only [List.append_toArray,List.nil_append,Array.append_empty,List.map_toArray,List.map_cons,List.map_nil,Array.empty_append]
  rw [hrun]
 unfold Oper.wp
 rw [hwp]
 have hd':qaE ⟨N,s,d,nx,l⟩ dst=true:=by cases dst<;>simp_all [dOk,qaE]
 have hr':=hr.step (.refl M) hd' (.p _ _ (.sc (.bool false)):VRel M (scb false) (.bool false)) (W:= []) (nx:=nx) hr.heap
 rw [qaT] at hr'
 exact hK _ _ (vc_sound Q n _ _ h M0 hM0 M _ hs hr' ro hro.tl)
theorem qqw {S:qaa} (b t g':Nat) {sz g len:Nat} {rows:List (List IV)} (hb:look (S.l++h0.m) b=some (.arr sz g rows)) (ht:look S.s t=some (.ref b g 0 len)) (hg:g < g'):
  Gho h0 S ⟨S.n,(t, .ref S.nx 0 0 len)::S.s,S.d,S.nx+1,(b, .arr sz g' [])::(S.nx, .arr sz 0 rows)::S.l⟩:=by
 intro M a hr
 have hM:=hr.heap.rel
 have hA: ¬M.H.A S.nx:=fun h=>Nat.lt_irrefl _ (hr.heap.A _ h)
 have hG:M.H.G b=some (.arr sz g rows):=by rw [hr.heap.G];exact hb
 have hAb:=hM.dom _ _ hG
 have hne:b≠S.nx:=fun e=>hA (e ▸hAb)
 have hGn:M.H.G S.nx=none:=by
  cases h:M.H.G S.nx with
  | none=>rfl
  | some x=>exact absurd (hM.dom _ _ h) hA
 let M':Mem:=⟨M.w,(M.H.put S.nx (.arr sz 0 rows)).put b (.arr sz g' []),fun k=>if k=b then none else if k=S.nx then M.β b else M.β k⟩
 have G': ∀k,M'.H.G k=if k=b then some (.arr sz g' []) else if k=S.nx then some (.arr sz 0 rows) else M.H.G k:=fun k=>rfl
 have β': ∀k,M'.β k=if k=b then none else if k=S.nx then M.β b else M.β k:=fun k=>rfl
 have own': ∀c,M'.own c→M.own c:=by
  rintro c (h | ⟨k,blk,o,n,h1,h2⟩)
  ·exact .inl h
  ·rw [G'] at h1;rw [β'] at h2
   by_cases e:k=b
   ·rw [if_pos e] at h2;cases h2
   ·rw [if_neg e] at h1 h2
    by_cases e2:k=S.nx
    ·rw [if_pos e2] at h1 h2
     exact .inr ⟨b,_,o,n,hG,h2⟩
    ·rw [if_neg e2] at h1 h2
     exact .inr ⟨k,blk,o,n,h1,h2⟩
 have st:qae M M':=by
  refine⟨rfl,rfl,rfl,Nat.le_refl _,fun c _ ho=>⟨rfl,fun h=>ho (own' c h)⟩,fun k hk=> .inl (.inl hk),fun k blk' hk hb'=>?_,rfl,fun _ _=>rfl⟩
  rw [G'] at hb'
  have e2:k≠S.nx:=fun e=>hA (e ▸hk)
  by_cases e:k=b
  ·subst e
   rw [if_pos rfl] at hb'
   cases hb'
   exact⟨_,hG,rfl,rfl,Nat.le_of_lt hg,fun e=>by simp only [IBlk.gen] at e;omega⟩
  ·rw [if_neg e,if_neg e2] at hb'
   exact⟨blk',hb',rfl,rfl,Nat.le_refl _,fun _=>⟨by rw [β',if_neg e,if_neg e2],rfl⟩⟩
 have rel:MRel M':=by
  refine⟨fun k blk hk=>?_,fun k blk hk=>?_,fun k k' blk blk' c o n o' n' h1 h2 c1 c2=>?_,hM.olt,fun k blk c o n h1 c1=>?_⟩
  ·rw [G'] at hk
   by_cases e:k=b
   ·subst e;exact .inl (.inl hAb)
   ·rw [if_neg e] at hk
    by_cases e2:k=S.nx
    ·exact .inl (.inr e2)
    ·rw [if_neg e2] at hk;exact .inl (.inl (hM.dom _ _ hk))
  ·rw [G'] at hk
   by_cases e:k=b
   ·subst e
    rw [if_pos rfl] at hk;cases hk
    exact⟨by simp,fun _=>rfl,fun c o n hc=>by rw [β',if_pos rfl] at hc;cases hc⟩
   ·rw [if_neg e] at hk
    by_cases e2:k=S.nx
    ·subst e2
     rw [if_pos rfl] at hk;cases hk
     obtain⟨r1,r2,r3⟩:=hM.blk b _ hG
     have hβ:M'.β S.nx=M.β b:=by rw [β',if_neg e,if_pos rfl]
     refine⟨r1,fun hn=>r2 (by rw [←hβ];exact hn),fun c o n hc=>?_⟩
     rw [hβ] at hc
     obtain⟨cs,ty,q1,q2,q3,q4,q5⟩:=r3 c o n hc
     refine⟨cs,ty,q1,q2,q3,q4,fun i row j x hi hj=>?_⟩
     obtain⟨v,v1,v2,v3⟩:=q5 i row j x hi hj
     exact⟨v,v1,v2,v3.step st⟩
    ·rw [if_neg e2] at hk
     exact BRel.step st (by rw [β',if_neg e,if_neg e2]) (fun c o n _=>rfl) (hM.blk k blk hk)
  ·rw [G'] at h1 h2
   rw [β'] at c1 c2
   by_cases e:k=b
   ·rw [if_pos e] at c1;cases c1
   by_cases e':k'=b
   ·rw [if_pos e'] at c2;cases c2
   rw [if_neg e] at h1 c1
   rw [if_neg e'] at h2 c2
   by_cases f:k=S.nx
   ·by_cases f':k'=S.nx
    ·rw [f,f']
    ·rw [if_pos f] at c1
     rw [if_neg f'] at h2 c2
     exact absurd (hM.inj _ _ _ _ c o n o' n' hG h2 c1 c2) (fun q=>e' q.symm)
   ·rw [if_neg f] at h1 c1
    by_cases f':k'=S.nx
    ·rw [if_pos f'] at c2
     exact absurd (hM.inj _ _ _ _ c o n o' n' h1 hG c1 c2) e
    ·rw [if_neg f'] at h2 c2
     exact hM.inj _ _ _ _ c o n o' n' h1 h2 c1 c2
  ·rw [G'] at h1
   rw [β'] at c1
   by_cases e:k=b
   ·rw [if_pos e] at c1;cases c1
   rw [if_neg e] at h1 c1
   by_cases f:k=S.nx
   ·rw [if_pos f] at c1
    exact hM.odis _ _ c o n hG c1
   ·rw [if_neg f] at h1 c1
    exact hM.odis _ _ c o n h1 c1
 refine⟨M',rfl,st,⟨⟨rel,fun k hk=>?_,fun k=>?_⟩,hr.size,fun i y hy=>?_,hr.defs.step st⟩⟩
 ·rcases hk with (hk | hk) | hk
  ·exact Nat.lt_succ_of_lt (hr.heap.A _ hk)
  ·rw [hk];exact Nat.lt_succ_self _
  ·rw [hk];exact Nat.lt_succ_of_lt (hr.heap.A _ hAb)
 ·rw [G']
  simp only [List.cons_append,look]
  by_cases e:k=b
  ·subst e;simp
  ·have e': ¬b=k:=fun h=>e h.symm
   simp only [if_neg e,if_neg e']
   by_cases e2:k=S.nx
   ·simp only [if_pos e2,if_pos e2.symm]
   ·have e2': ¬S.nx=k:=fun h=>e2 h.symm
    simp only [if_neg e2,if_neg e2'];exact hr.heap.G k
 ·simp only [look] at hy
  split at hy
  ·rename_i e
   subst e
   cases hy
   obtain⟨v,v1,v2⟩:=hr.slot _ _ ht
   have hok:qdl (M.β b) sz rows.length 0 len v:=by
    cases v2 with
    | ref _ _ _ _ _ hA hv h=>exact(h _ hG).2 rfl
   obtain⟨ad,cap,e1,_⟩:=id hok
   refine⟨v,v1, .ref S.nx 0 0 len v (.inl (.inr rfl)) ⟨ad,cap,e1⟩ fun blk hblk=>?_⟩
   rw [G',if_neg (fun h=>hne h.symm),if_pos rfl] at hblk
   cases hblk
   exact⟨Nat.le_refl _,fun _=>by rw [β',if_neg (fun h=>hne h.symm),if_pos rfl];exact hok⟩
  ·obtain⟨u,u1,u2⟩:=hr.slot i y hy
   exact⟨u,u1,u2.step st⟩
theorem qsd {ro:Option Nat} {all:Array Oper} {y:Operand} {ty:TypeId} {pos:String} {aft:Array Edge} {dst:Option Tmp} {r:List Oper} {S:qaa} {M:Mem} {a:Act} {Qx:Exit→Act→World→Prop} {z:IV}
  (hr:SRel h0 S M a) (hy:ev S.s y=some z) (hd:qaE S dst=true) (h:SRel h0 (S.put dst z S.nx []) M (a.put dst (a.eval y))→wpListIn (Wd ro) 0 P all Qx r (a.put dst (a.eval y)) M.w):
  wpListIn (Wd ro) 0 P all Qx (⟨dst, .move y,ty,pos,aft,none⟩::r) a M.w:=by
 refine wpListW_step (.inr rfl) fun K hK=>?_
 rw [if_pos (qa4 hr (show qai all S.s ⟨dst,_,ty,pos,aft,none⟩=some true from rfl))]
 have hwp:(execOp a.eval ⟨dst, .move y,ty,pos,aft,none⟩).run P M.w= .ok (.value (a.eval y)) M.w:=by simp [execOp]
 unfold Oper.wp
 rw [hwp]
 exact hK _ _ (h (hr.step (.refl M) hd (qaH hr.slot hy) hr.heap))
theorem qcQ {a:Act} {d t:Nat} {v:Value} (h:t≠d):(a.put (some d) v).tmps[t]? =a.tmps[t]? :=by
 simp only [Act.put]
 rw [Array.getElem?_setIfInBounds_ne (fun e=>h e.symm)]
theorem qq7 {a:Act} {d:Nat} {v:Value} (h:d < a.tmps.size):(a.put (some d) v).tmps[d]? =some v:=by
 simp only [Act.put]
 rw [Array.getElem?_setIfInBounds_self_of_lt h]
theorem qk6 {a:Act} {t:Nat} {v:Value} (h:a.tmps[t]? =some v):a.eval (.tmp t)=v:=by
 simp [Act.eval,h]
theorem qlo {S S':qaa} {M M':Mem} {a a':Act} (hr:SRel h0 S M a) (st:qae M M') (hr':SRel h0 S' M' a') {b:Nat} {blk:IBlk} (h:look (S.l++h0.m) b=some blk) (h':look (S'.l++h0.m) b=some blk):M'.β b=M.β b:=by
 have hG:M.H.G b=some blk:=by rw [hr.heap.G];exact h
 exact keep_β st (hr.heap.rel.dom _ _ hG) hG (by rw [hr'.heap.G];exact h')
theorem qoo (n:Nat) {Q:Exit→qaa→Prop} {k:List It} {all:Array Oper} {r:List Oper} {dst:Option Tmp} {ty T e:TypeId} {pos:String} {aft:Array Edge} {N:Nat} {s:List (Nat × IV)} {d:List IDef} {nx:Nat} {l:List (Nat × IBlk)}
  {x y:Operand} {kj:IntKind} {b g off len h sz:Nat} {rows:List (List IV)} (ht:tel P T=some e) (hsz:tsz P e=some sz) (hx:ev s x=some (.ref b g off len)) (hy:ev s y=some (sci kj (h:Int)))
  (hb:look (l++h0.m) b=some (.arr sz g rows)) (hle:off+h≤rows.length) (hd:dOk N dst=true)
  (hk:vc P h0 Q n (.ops all r::k) ⟨N,putS dst (.ref b g off h) s,d,nx,l⟩):
  IRun P h0 (.ops all (⟨dst, .slice T x none (some y) none,ty,pos,aft,none⟩::r)::k) ⟨N,s,d,nx,l⟩ Q:=by
 intro M0 hM0 M a hs hr ro hro
 refine wpListW_step (hro.mem (List.mem_cons_self ..)) fun K hK=>?_
 rw [if_pos (qa4 hr (show qai all s ⟨dst,_,ty,pos,aft,none⟩=some true from rfl))]
 have hM:=hr.heap.rel
 have hv:=qaH hr.slot hx
 have hvy:=qaH hr.slot hy
 have hG:M.H.G b=some (.arr sz g rows):=by rw [hr.heap.G];exact hb
 have hok:qdl (M.β b) sz rows.length off len (a.eval x):=by
  generalize a.eval x=q at hv
  cases hv with
  | ref _ _ _ _ _ hA hv h=>exact(h _ hG).2 rfl
 obtain⟨ad,cap,e1,c1,c2,c3,c4⟩:=hok
 have hbd: ∀code,(Instr.sliceBound (a.eval y) cap code).run P M.w= .ok h M.w:=fun code=>
  (qbf (P:=P) (M:=M) (i:=sci kj (h:Int)) (y:=rows.length - off) (d:=0) (k:=h) (code:=code) (by simp only [sbd,sci];rw [if_pos (by omega)];simp) hvy cap (by omega) M.w).1
 have hrun:(Instr.sliceBounds true len cap none (some (a.eval y)) none).run P M.w= .ok (0,h,cap) M.w:=by
  unfold Instr.sliceBounds
  simp [hbd]
 have hrun2:=qbv (P:=P) ht hsz (a:=ad) hrun
 have hwp:(execOp a.eval ⟨dst, .slice T x none (some y) none,ty,pos,aft,none⟩).run P M.w= .ok (.value (.slice (if cap=0 then ad else ad.map (·.add (0 * sz))) (h - 0) (cap - 0))) M.w:=by
  simp only [execOp,e1,Option.map_some,Option.map_none];rw [Sem.run_bind,hrun2];rfl
 unfold Oper.wp
 rw [hwp]
 have hd':qaE ⟨N,s,d,nx,l⟩ dst=true:=by cases dst<;>simp_all [dOk,qaE]
 have hvr:VRel M (.ref b g off h) (.slice (if cap=0 then ad else ad.map (·.add (0 * sz))) (h - 0) (cap - 0)):=by
  refine .ref b g off h _ (hM.dom _ _ hG) ⟨_,_,rfl⟩ fun blk hblk=>?_
  rw [hG] at hblk;cases hblk
  refine⟨Nat.le_refl _,fun _=>⟨_,_,rfl,by omega,by simp only [IBlk.len];omega,by simp only [IBlk.len];omega,?_⟩⟩
  rcases c4 with c4 | ⟨c,o',n',q5,q6,q7⟩
  ·exact .inl (by omega)
  ·by_cases hcl:cap=0
   ·exact .inl (by omega)
   ·refine .inr ⟨c,o',n',q5,?_,by omega⟩
    rw [if_neg hcl,q6]
    simp only [Option.map_some,qbj,IBlk.sz]
    congr 2
    omega
 have hr':=hr.step (.refl M) hd' hvr (W:= []) (nx:=nx) hr.heap
 rw [qaT] at hr'
 exact hK _ _ (vc_sound Q n _ _ hk M0 hM0 M _ hs hr' ro hro.tl)
end Go.Idl
/-
 A literal of its own in a region that draws its order.
-/
namespace Go.Idl
variable {P:Program} {h0:IH}
theorem qrQ {o:Oper} {ρ:Operand→Option IV} {nx:Nat} {t:TypeId} {len:Nat} {parts:List (Nat × Operand)} {zs:List (Nat × IV)} {sz:Nat} {cs:List IV} (ho:o.op= .buildSlice t len ⟨parts⟩) (hz:rparts ρ parts=some zs)
  (hl:flit P t len zs=some (sz,cs)):qbh P o ρ [] [nx] (.ref nx 0 0 len) [(nx, .arr sz 0 (chunk sz len cs))]:=by
 obtain⟨hcl,hlm,e,hrun⟩:=run_lit hl
 have:({x:= .ref nx 0 0 len,F:= [nx],W:= [(nx, .arr sz 0 (chunk sz len cs))]}:FR).ok P o ρ:=by
  refine .does fun M a hM _ hF hr=>?_
  obtain⟨l1,l2⟩:=qc0 (M:=M) (a:=a) hz fun p hp=>hr p.2 (by
   simp only [ho,Op.operands];simp;exact⟨p.1,hp⟩)
  obtain⟨vs,g1,g2⟩:=hrun M (parts.map fun p=>(p.1,a.eval p.2)) l1 l2
  have hvl:=g1.len
  obtain⟨s,r⟩:=qda hM nx (hF nx (by simp)) sz 0 len (chunk sz len cs) ⟨vs⟩ e (chunk_wid hcl) (by simp [chunk]) hlm (qbi.all (by simp [hvl,hcl]) (by simpa using g1.one)) (by
   intro i row j x hi hj
   obtain⟨_,_,hy⟩:=qfz hi hj
   obtain⟨u,u1,u2,u3⟩:=g1.get hy
   exact⟨u,by simpa using u1,u2,u3⟩)
  refine⟨.slice (some ⟨M.w.heap.size,0,none⟩) len len,_,?_,s,r,rfl,?_⟩
  ·simp only [execOp,ho,Sem.run_bind]
   have e:(Array.map (fun x=>(x.1,a.eval x.2)) ⟨parts⟩:Array (Nat × Value))=⟨parts.map fun p=>(p.1,a.eval p.2)⟩:=by simp
   rw [show(Array.map (fun x:Nat × Operand=>match x with | (i,x)=>(i,a.eval x)) ⟨parts⟩:Array (Nat × Value))=⟨parts.map fun p=>(p.1,a.eval p.2)⟩ from e,g2]
   rfl
  ·refine .ref nx 0 0 len _ (.inr rfl) ⟨_,_,rfl⟩ fun blk hblk=>?_
   simp only [AH.put,if_true,Option.some.injEq] at hblk
   subst hblk
   refine⟨Nat.le_refl _,fun _=>⟨_,_,rfl,by omega,by simp [IBlk.len,chunk],by simp [IBlk.len,chunk], .inr ⟨M.w.heap.size,0,len,by simp [putβ],by simp,by omega⟩⟩⟩
 exact this
theorem qql {all:Array Oper} {dst:Option Tmp} {t ty:TypeId} {len:Nat} {parts:List (Nat × Operand)} {pos:String} {aft:Array Edge} {g:Option (Nat × Bool)} {zs:List (Nat × IV)} {sz:Nat} {cs:List IV} {r:List Oper} {S:qaa} {acc:List FP} {K:qaa→List FP→Prop}
  (hw:qai all S.s ⟨dst, .buildSlice t len ⟨parts⟩,ty,pos,aft,g⟩=some true) (hz:rparts (ev S.s) parts=some zs) (hl:flit P t len zs=some (sz,cs)) (hd:dOk S.n dst=true)
  (h:DRun P h0 all r ⟨S.n,putS dst (.ref S.nx 0 0 len) S.s,S.d,S.nx+1,(S.nx, .arr sz 0 (chunk sz len cs))::S.l⟩ (acc++ [([], [S.nx])]) K):
  DRun P h0 all (⟨dst, .buildSlice t len ⟨parts⟩,ty,pos,aft,g⟩::r) S acc K:=by
 obtain⟨frs,S',h1,h2⟩:=h
 refine⟨{x:= .ref S.nx 0 0 len,F:= [S.nx],W:= [(S.nx, .arr sz 0 (chunk sz len cs))]}::frs,S', .op hw (qbh.loc (qrQ rfl hz hl)) ?_ hd (by simpa using h1),by simpa [FR.fp] using h2⟩
 exact FR.fits.G ⟨by simp, .inr ⟨rfl,_,rfl⟩⟩
theorem qhY {ops:List Oper} {id n:Nat} {k:List It} {S:qaa} {Q:Exit→qaa→Prop} (u:List (Option (List Nat))) (hm:P.follows .mixedOrders=true) (hst:stat ops u=true)
  (h:DRun P h0 ops.toArray ops S [] (fun S' fps=>chk u fps∧vc P h0 Q n k S')):IRun P h0 (.code (.region id ops.toArray true)::k) S Q:=by
 obtain⟨frs,S',h1,h2,h3⟩:=h
 exact qe5 hm hst h1 (by simpa using h2) (vc_sound Q n k S' h3)
theorem qaI.app {all:Array Oper} {l1 l2:List Oper} {S S1 S2:qaa} {f1 f2:List FR} (h1:qaI P h0 all l1 S f1 S1) (h2:qaI P h0 all l2 S1 f2 S2):qaI P h0 all (l1++l2) S (f1++f2) S2:=by
 induction h1 with
 | nil S=>exact h2
 | op hw hl hf hd _ ih=>exact .op hw hl hf hd (ih h2)
 | skip hw hd _ ih=>exact .skip hw hd (ih h2)
theorem qeX (k:Nat) {all:Array Oper} {l:List Oper} {S:qaa} {acc:List FP} {K:qaa→List FP→Prop} (h:dvc P h0 all (fun S acc=>DRun P h0 all (l.drop k) S acc K) (l.take k) S acc):DRun P h0 all l S acc K:=by
 obtain⟨f1,S1,h1,f2,S2,h2,h3⟩:=dvc_sound _ _ _ h
 refine⟨f1++f2,S2,by simpa using h1.app h2,by simpa using h3⟩
end Go.Idl
/-
 Laid behind a part of a block of one's own, in place; a slice of a block beyond its own length.
-/
namespace Go.Idl
variable {P:Program} {h0:IH} {G:Nat→Option IBlk}
end Go.Idl
/- A message taken out of a list, in place. -/
namespace Go.Proofs.NO
open Go Go.Idl Go.Proofs Go.GP Go.Proofs.Tryz
set_option maxHeartbeats 20000000
set_option maxRecDepth 100000
end Go.Proofs.NO
/- A message laid into a list: slices.Insert. -/
namespace Go.Proofs.NO
open Go Go.Idl Go.Proofs Go.Proofs.Tryz
set_option maxHeartbeats 20000000
set_option maxRecDepth 100000
theorem pvs_p: ∀ps:List PV,pvs (ps.map .p)=some ps
 | []=>rfl
 | p::ps=>by simp [pvs,pvs_p ps]
theorem pvs2_ir (l:List (Int × Int)):Option.map (fun ps=>IV.p (PV.imm 2 ps)) (pvs2 (ir eII l))=some (.p (.imm 2 (pr eII l))):=by
 have:pvs2 (ir eII l)=some (pr eII l):=by
  induction l with
  | nil=>rfl
  | cons a l ih=>
    simp only [ir,pr,List.map_cons,pvs2,pvs_p] at ih ⊢
    rw [ih]
 rw [this];rfl
theorem qqG (l:List (Int × Int)) (m:Int × Int) (i:Nat) (hi:i < l.length) {z:List IV}:
  List.take (l.length+1) (List.take ((i:Int)+1).toNat (List.take i (ir eII (List.take i l)++z::List.replicate (l.length - i) z)++ir eII [m]++List.drop (i+1) (ir eII (List.take i l)++z::List.replicate (l.length - i) z))++
   ir eII (List.take ((l.length - i).min (l.length+1 - ((i:Int)+1).toNat)) (List.take (l.length - i) (List.drop i l)))++
   List.drop (((i:Int)+1).toNat+(l.length - i).min (l.length+1 - ((i:Int)+1).toNat)) (List.take i (ir eII (List.take i l)++z::List.replicate (l.length - i) z)++ir eII [m]++List.drop (i+1) (ir eII (List.take i l)++z::List.replicate (l.length - i) z)))
  =ir eII (l.take i++m::l.drop i):=by
 have hA:(ir eII (l.take i)).length=i:=by simp [ir];omega
 have ti:((i:Int)+1).toNat=i+1:=rfl
 have hX:List.take i (ir eII (List.take i l)++z::List.replicate (l.length - i) z)++ir eII [m]++List.drop (i+1) (ir eII (List.take i l)++z::List.replicate (l.length - i) z)
   =ir eII (l.take i)++ir eII [m]++List.replicate (l.length - i) z:=by
  rw [List.take_append_of_le_length (by omega),List.take_of_length_le (by omega),List.drop_append,hA,List.drop_eq_nil_of_le (by omega),List.nil_append,show i+1 - i=1 by omega,List.drop_succ_cons,List.drop_zero]
 have hm:(l.length - i).min (l.length+1 - (i+1))=l.length - i:=by
  have:min (l.length - i) (l.length+1 - (i+1))=l.length - i:=by omega
  exact this
 have hAm:(ir eII (l.take i)++ir eII [m]).length=i+1:=by rw [List.length_append,hA];rfl
 have hD:List.take (l.length - i) (List.take (l.length - i) (List.drop i l))=l.drop i:=by
  rw [List.take_take,Nat.min_self,List.take_of_length_le (by rw [List.length_drop];exact Nat.le_refl _)]
 have h1:List.take (i+1) (ir eII (l.take i)++ir eII [m]++List.replicate (l.length - i) z)=ir eII (l.take i)++ir eII [m]:=by
  rw [List.take_append_of_le_length (by omega),List.take_of_length_le (by omega)]
 have h2:List.drop (i+1+(l.length - i)) (ir eII (l.take i)++ir eII [m]++List.replicate (l.length - i) z)= []:=
  List.drop_eq_nil_of_le (by rw [List.length_append,hAm,List.length_replicate];exact Nat.le_refl _)
 rw [ti,hX,hm,hD,h1,h2,List.append_nil,List.take_of_length_le (by rw [List.length_append,hAm];simp [ir];omega)]
 simp [ir]
theorem qqF (l:List (Int × Int)) (m:Int × Int) (i:Nat) (hi:i < l.length) {w:List IV}:
  List.take (l.length+1) (List.take i (List.take ((i:Int)+1).toNat (ir eII l++ [w])++List.take ((l.length+1 - i).min (l.length+1 - ((i:Int)+1).toNat)) (List.take (l.length+1 - i) (List.drop i (ir eII l++ [w])))++
   List.drop (((i:Int)+1).toNat+(l.length+1 - i).min (l.length+1 - ((i:Int)+1).toNat)) (ir eII l++ [w]))++ir eII (List.take (Nat.min 1 (l.length+1 - i)) [m])++
   List.drop (i+Nat.min 1 (l.length+1 - i)) (List.take ((i:Int)+1).toNat (ir eII l++ [w])++List.take ((l.length+1 - i).min (l.length+1 - ((i:Int)+1).toNat)) (List.take (l.length+1 - i) (List.drop i (ir eII l++ [w])))++
   List.drop (((i:Int)+1).toNat+(l.length+1 - i).min (l.length+1 - ((i:Int)+1).toNat)) (ir eII l++ [w])))=ir eII (l.take i++m::l.drop i):=by
 have ti:((i:Int)+1).toNat=i+1:=rfl
 have hm:(l.length+1 - i).min (l.length+1 - (i+1))=l.length - i:=by
  have:min (l.length+1 - i) (l.length+1 - (i+1))=l.length - i:=by omega
  exact this
 have h1:Nat.min 1 (l.length+1 - i)=1:=by
  have:min 1 (l.length+1 - i)=1:=by omega
  exact this
 have hR:(ir eII l).length=l.length:=by simp [ir]
 have hd:List.drop i (ir eII l++ [w])=List.drop i (ir eII l)++ [w]:=List.drop_append_of_le_length (by omega)
 have hdl:(List.drop i (ir eII l)).length=l.length - i:=by rw [List.length_drop,hR]
 have hY2:List.take (l.length - i) (List.take (l.length+1 - i) (List.drop i (ir eII l)++ [w]))=List.drop i (ir eII l):=by
  rw [List.take_take,Nat.min_eq_left (by omega),List.take_append_of_le_length (by omega),List.take_of_length_le (by omega)]
 have hY3:List.drop (i+1+(l.length - i)) (ir eII l++ [w])= []:=List.drop_eq_nil_of_le (by rw [List.length_append,hR];simp;omega)
 have hY1:(List.take (i+1) (ir eII l++ [w])).length=i+1:=by rw [List.length_take,List.length_append,hR];simp;omega
 have hT:List.take i (List.take (i+1) (ir eII l++ [w])++List.drop i (ir eII l))=List.take i (ir eII l):=by
  rw [List.take_append_of_le_length (by omega),List.take_take,Nat.min_eq_left (by omega),List.take_append_of_le_length (by omega)]
 have hD:List.drop (i+1) (List.take (i+1) (ir eII l++ [w])++List.drop i (ir eII l))=List.drop i (ir eII l):=by
  rw [List.drop_append,hY1,List.drop_eq_nil_of_le (by omega),Nat.sub_self,List.drop_zero,List.nil_append]
 rw [ti,hm,h1,hd,hY2,hY3,List.append_nil,hT,hD,List.take_of_length_le (by simp [ir];omega)]
 simp [ir,List.map_take,List.map_drop]
theorem qmc (l:List (Int × Int)) (m:Int × Int) (i:Nat) (hi:i≤l.length) (hn:l.length≤1000000):
  PG prog 101 [.ref 0 0 0 l.length,sci .i64 i, .ref 1 0 0 1] [.arr 2 0 (ir eII l), .arr 2 0 (ir eII [m])] 0 (lII (l.take i++m::l.drop i)) [(0, .arr 2 10 [])]:=by
 refine pg_of 0 (fn:=f101) func101 rfl (by simp [ntmps101]) 2 rfl (by((try refine zW ?_);(try with_reducible exact True.intro))) (by((try refine zW ?_);(try with_reducible exact True.intro))) (by((try refine zW ?_);(try with_reducible exact True.intro))) (by(try simp only [go_sem,simprocAttr,hasAll])) (by((try refine zW ?_);(try with_reducible exact True.intro))) fun hs=>?_
 rw [qi5]
 refine qg0 trivial (qqw 0 0 10 (sz:=2) (g:=0) (len:=l.length) (rows:=ir eII l) rfl rfl (by decide)) ?_
 by_cases h:i=l.length
 ·subst h
  refine vc_sound _ 200 _ _ ?_
  ((try refine zO ?_);(try with_reducible exact True.intro))
 ·refine vc_sound _ 40 _ _ ?_
  try refine zO ?_
  rw [qi5]
  have hlt:i < l.length:=by omega
  have hrl:(ir eII l).length=l.length:=by simp [ir]
  refine qqI fun M0 hM0 M a hst hr ro hro=>?_
  refine wpIn_seq (wpIn_region_list ?_)
  refine wp_fop hr rfl (by((try refine zO ?_);(try with_reducible exact True.intro));rfl) rfl fun v1 M1 st1 hr1=>?_
  simp only [qaT,putS,List.length_nil,Nat.add_zero,List.reverse_nil,List.nil_append,List.cons_append,Nat.reduceAdd] at hr1
  refine wp_fop hr1 rfl (by((try refine zO ?_);(try with_reducible exact True.intro));rfl) rfl fun v2 M2 st2 hr2=>?_
  simp only [qaT,putS,List.length_nil,Nat.add_zero,List.reverse_nil,List.nil_append,List.cons_append,Nat.reduceAdd] at hr2
  refine wp_fop hr2 rfl (by((try refine zO ?_);(try with_reducible exact True.intro));rfl) rfl fun v3 M3 st3 hr3=>?_
  simp only [qaT,putS,List.length_nil,Nat.add_zero,List.reverse_nil,List.nil_append,List.cons_append,Nat.reduceAdd] at hr3
  obtain⟨v0,hv0, -⟩:=hr3.slot 0 (.ref 2 0 0 l.length) (by((try refine zW ?_);(try with_reducible exact True.intro)))
  have hsz3:=hr3.size
  have hev:=qk6 hv0
  refine qsd hr3 (z:= .ref 2 0 0 l.length) (by((try refine zW ?_);(try with_reducible exact True.intro))) rfl fun hr4=>?_
  have h29: ∀v,(Act.put (Act.put (Act.put (Act.put a (some 26) v1) (some 27) v2) (some 28) v3) (some 29) v).eval (.tmp 29)=v:=fun v=>qk6 (qq7 (by have:=hsz3;simp only at this;omega))
  simp only [qaT,putS,List.length_nil,Nat.add_zero,List.reverse_nil,List.nil_append,List.cons_append,Nat.reduceAdd] at hr4
  refine wp_cap hr4 (e:=67) (b:=2) (g:=0) (off:=0) (len:=l.length) (sz:=2) (rows:=ir eII l) (by kernel_rfl) (by((try refine zW ?_);(try with_reducible exact True.intro))) (by((try refine zW ?_);(try with_reducible exact True.intro))) rfl fun ad cap e1 hok hr5=>?_
  rw [hrl] at hok
  have e0:v0= .slice ad l.length cap:=by
   have e2:=e1
   rw [h29] at e2
   exact hev.symm.trans e2
  simp only [qaT,putS,List.length_nil,Nat.add_zero,List.reverse_nil,List.nil_append,List.cons_append,Nat.reduceAdd] at hr5
  subst e0
  obtain⟨_,cap',ec,c1,c2,c3,c4⟩:=id hok
  cases ec
  obtain⟨c,o,n,B,A,C⟩:=c4.resolve_left (by omega)
  simp only [Nat.zero_mul,Nat.add_zero,Nat.zero_add] at A C c3
  have h5:M3.H.G 2=some (.arr 2 0 (ir eII l)):=by rw [hr5.heap.G];rfl
  rcases Nat.lt_or_ge cap (l.length+1) with hc | hc
  ·have hcl:cap=l.length:=by omega
   subst hcl
   have hgt:(l.length:Int) < (l.length:Int)+1:=by omega
   refine wp_fop hr5 rfl (by(try simp (disch:=omega) only [go_sem,simprocAttr,zD,zE,hgt]);rfl) rfl fun v6 M6 st6 hr6=>?_
   simp only [qaT,putS,List.length_nil,Nat.add_zero,List.reverse_nil,List.nil_append,List.cons_append,Nat.reduceAdd] at hr6
   refine wpListIn_nil ?_
   show(Code.cond _ _ _).wpIn _ _ _ _ _ _
   refine wpIn_cond_true (qaH hr6.slot (show ev _ (.tmp 31)=some (scb true) by((try refine zW ?_);(try with_reducible exact True.intro)))).sc_inv ?_
   have hβ6:M6.β 2=some (c,o,n):=(qlo hr5 st6 hr6 (b:=2) (blk:= .arr 2 0 (ir eII l)) rfl rfl).trans B
   obtain⟨v6',hv6', -⟩:=hr6.slot 0 (.ref 2 0 0 l.length) (by((try refine zW ?_);(try with_reducible exact True.intro)))
   have e6:v6'= .slice ad l.length l.length:=by
    have h:=hv6'
    rw [qcQ (by decide),qcQ (by decide),qcQ (by decide)] at h
    exact Option.some.inj (h.symm.trans hv0)
   subst e6
   have hB6:=hr6.heap.rel.blk 2 (.arr 2 0 (ir eII l)) (by rw [hr6.heap.G];rfl)
   obtain⟨M7,hw7,st7,hβ7,hr7⟩:=qlX hr6 (b:=2) (sz:=2) (g:=0) (t:=0) (rows:=ir eII l) rfl hβ6 1 (ir eII l).length (ir eII l) (by decide) (fun M' st hw hb=>qph hB6 hβ6 st hw hb) hv6' (len:=l.length)
    ⟨ad,l.length,rfl,Nat.le_refl _,by omega,by omega, .inr ⟨c,o,_,rfl,by rw [A];simp,by omega⟩⟩
   have hk:(l.length:Int)+1 - (i:Int)=((l.length+1 - i:Nat):Int):=by omega
   rw [←hw7]
   refine wpIn_seq (wpIn_region_list ?_)
   refine wp_fop hr7 rfl (by(try simp (disch:=omega) only [go_sem,simprocAttr,zD,zE,hk]);rfl) rfl fun u1 N1 t1 k1=>?_
   simp only [qaT,putS,List.length_nil,Nat.add_zero,List.reverse_nil,List.nil_append,List.cons_append,Nat.reduceAdd] at k1
   refine wp_fop k1 rfl (by(try simp (disch:=omega) only [go_sem,simprocAttr,zD,zE,hk]);rfl) rfl fun u2 N2 t2 k2=>?_
   simp only [qaT,putS,List.length_nil,Nat.add_zero,List.reverse_nil,List.nil_append,List.cons_append,Nat.reduceAdd] at k2
   refine wp_fop k2 rfl (by(try simp (disch:=omega) only [go_sem,simprocAttr,zD,zE,hk]);rfl) rfl fun u3 N3 t3 k3=>?_
   simp only [qaT,putS,List.length_nil,Nat.add_zero,List.reverse_nil,List.nil_append,List.cons_append,Nat.reduceAdd] at k3
   refine wp_fop k3 rfl (by(try simp (disch:=omega) only [go_sem,simprocAttr,zD,zE,hk]);rfl) rfl fun u4 N4 t4 k4=>?_
   simp only [qaT,putS,List.length_nil,Nat.add_zero,List.reverse_nil,List.nil_append,List.cons_append,Nat.reduceAdd] at k4
   refine wp_fop k4 rfl (by(try simp (disch:=omega) only [go_sem,simprocAttr,zD,zE,hk]);rfl) rfl fun u5 N5 t5 k5=>?_
   simp only [qaT,putS,List.length_nil,Nat.add_zero,List.reverse_nil,List.nil_append,List.cons_append,Nat.reduceAdd] at k5
   refine wp_fop k5 rfl (by(try simp (disch:=omega) only [go_sem,simprocAttr,zD,zE,hk]);rfl) rfl fun u6 N6 t6 k6=>?_
   simp only [qaT,putS,List.length_nil,Nat.add_zero,List.reverse_nil,List.nil_append,List.cons_append,Nat.reduceAdd] at k6
   refine wp_fop k6 rfl (by(try simp (disch:=omega) only [go_sem,simprocAttr,zD,zE,hk]);rfl) rfl fun u7 N7 t7 k7=>?_
   simp only [qaT,putS,List.length_nil,Nat.add_zero,List.reverse_nil,List.nil_append,List.cons_append,Nat.reduceAdd] at k7
   refine wp_fop k7 rfl (by(try simp (disch:=omega) only [go_sem,simprocAttr,zD,zE,hk]);rfl) rfl fun u8 N8 t8 k8=>?_
   simp only [qaT,putS,List.length_nil,Nat.add_zero,List.reverse_nil,List.nil_append,List.cons_append,Nat.reduceAdd] at k8
   have hβ8:N8.β 2=some (c,o,(ir eII l).length):=(qlo hr7 (t1.trans (t2.trans (t3.trans (t4.trans (t5.trans (t6.trans (t7.trans t8))))))) k8 (b:=2) (blk:= .arr 2 1 (ir eII l)) rfl rfl).trans hβ7
   refine qo1 k8 (b:=2) (g:=1) (i:=i) (k:=l.length+1 - i) (sz:=2) (by_:=16) (zs:= [.int .i64 0, .int .i64 0]) (rows:=ir eII l) (e:=67) (ki:= .i64) (kj:= .i64) (by((try refine zW ?_);(try with_reducible exact True.intro))) (by((try refine zW ?_);(try with_reducible exact True.intro))) (by((try refine zW ?_);(try with_reducible exact True.intro))) hβ8 (by kernel_rfl) (by kernel_rfl) (by kernel_rfl) (by kernel_rfl) (by kernel_rfl) rfl rfl
    (by omega) (by omega) (by omega) (by omega) (by omega) rfl fun u9 N9 t9 k9=>?_
   simp only [qaT,putS,List.length_nil,Nat.add_zero,List.reverse_nil,List.nil_append,List.cons_append,Nat.reduceAdd] at k9
   refine wp_fop k9 rfl (by((try refine zO ?_);(try with_reducible exact True.intro));rfl) rfl fun u10 N10 t10 k10=>?_
   simp only [qaT,putS,List.length_nil,Nat.add_zero,List.reverse_nil,List.nil_append,List.cons_append,Nat.reduceAdd] at k10
   refine wpListIn_nil ?_
   refine qqk ?_ hM0 (hst.trans (st1.trans (st2.trans (st3.trans (st6.trans (st7.trans (t1.trans (t2.trans (t3.trans (t4.trans (t5.trans (t6.trans (t7.trans (t8.trans (t9.trans t10))))))))))))))) k10 hro.r
   refine vc_sound _ 200 _ _ ?_
   have hA:(ir eII (l.take i)).length=i:=by simp [ir];omega
   have fa:i+(l.length+1 - i)=l.length+1:=by omega
   have fb:l.length+1 - i=(l.length - i)+1:=by omega
   have fm:Nat.min 1 ((l.length - i)+1)=1:=by have:min 1 (l.length - i+1)=1:=by omega
                                              exact this
   have ft:List.take 1 [m]= [m]:=rfl
   have fi:i+(l.length - i+1)=l.length+1:=by omega
   have hX:List.take i (ir eII (List.take i l)++List.replicate (l.length - i+1) [sci .i64 0,sci .i64 0])++ir eII [m]++List.drop (i+1) (ir eII (List.take i l)++List.replicate (l.length - i+1) [sci .i64 0,sci .i64 0])
     =ir eII (l.take i)++ir eII [m]++List.replicate (l.length - i) [sci .i64 0,sci .i64 0]:=by
    rw [List.take_append_of_le_length (by omega),List.take_of_length_le (by omega),List.drop_append,hA,List.drop_eq_nil_of_le (by omega),List.nil_append,show i+1 - i=1 by omega,List.drop_replicate,Nat.add_sub_cancel]
   (try simp (disch:=omega) only [go_sem,simprocAttr,zD,zE,fb,fm,ft,fi,hX,Nat.add_sub_cancel_left])
   (refine zM [0,1,7,9] ?_;refine zI [none,none,none,none,none,none,none,none,some []] ?_)
   try refine zO ?_
   rw [qqG l m i hlt]
   exact pvs2_ir _
  ·have hgt: ¬(cap:Int) < (l.length:Int)+1:=by omega
   refine wp_fop hr5 rfl (by(try simp (disch:=omega) only [go_sem,simprocAttr,zD,zE,hgt]);rfl) rfl fun v6 M6 st6 hr6=>?_
   simp only [qaT,putS,List.length_nil,Nat.add_zero,List.reverse_nil,List.nil_append,List.cons_append,Nat.reduceAdd] at hr6
   refine wpListIn_nil ?_
   show(Code.cond _ _ _).wpIn _ _ _ _ _ _
   refine wpIn_cond_false (qaH hr6.slot (show ev _ (.tmp 31)=some (scb false) by((try refine zW ?_);(try with_reducible exact True.intro)))).sc_inv ?_
   have hβ6:M6.β 2=some (c,o,n):=(qlo hr5 st6 hr6 (b:=2) (blk:= .arr 2 0 (ir eII l)) rfl rfl).trans B
   obtain⟨v6',hv6', -⟩:=hr6.slot 0 (.ref 2 0 0 l.length) (by((try refine zW ?_);(try with_reducible exact True.intro)))
   have e6:v6'= .slice ad l.length cap:=by
    have h:=hv6'
    rw [qcQ (by decide),qcQ (by decide),qcQ (by decide)] at h
    exact Option.some.inj (h.symm.trans hv0)
   subst e6
   have hB6:=hr6.heap.rel.blk 2 (.arr 2 0 (ir eII l)) (by rw [hr6.heap.G];rfl)
   obtain⟨raw,hraw,hBm⟩:=qpi (g':=1) hB6 hβ6 (by rw [hrl];omega)
   obtain⟨u1,u2,rfl⟩: ∃u1 u2,raw= [u1,u2]:=by
    match raw,hraw with
    | [u1,u2],_=>exact⟨u1,u2,rfl⟩
   simp only [List.map_cons,List.map_nil] at hBm
   have hrl2:(ir eII l++ [[IV.p (.sc u1),IV.p (.sc u2)]]).length=l.length+1:=by rw [List.length_append,hrl];rfl
   obtain⟨M7,hw7,st7,hβ7,hr7⟩:=qlX hr6 (b:=2) (sz:=2) (g:=0) (t:=0) (rows:=ir eII l) rfl hβ6 1 n (ir eII l++ [[.p (.sc u1), .p (.sc u2)]]) (by decide) hBm hv6' (len:=l.length)
    ⟨ad,cap,rfl,c1,by omega,by omega, .inr ⟨c,o,_,rfl,by rw [A];simp,by omega⟩⟩
   refine wpIn_skip ⟨M7,_,hw7,hst.trans (st1.trans (st2.trans (st3.trans (st6.trans st7)))),hr7,?_⟩
   refine vc_sound _ 200 _ _ ?_
   (try simp (disch:=omega) only [go_sem,simprocAttr,zD,zE,hrl2])
   refine qoo 200 (e:=67) (b:=2) (g:=1) (off:=0) (len:=l.length) (h:=l.length+1) (sz:=2) (kj:= .i64) (rows:=ir eII l++ [[.p (.sc u1), .p (.sc u2)]]) (by kernel_rfl) (by kernel_rfl) (by((try refine zW ?_);(try with_reducible exact True.intro))) (by(try simp only [go_sem,simprocAttr,Int.natCast_add,Int.natCast_one])) (by((try refine zW ?_);(try with_reducible exact True.intro))) (by omega) rfl ?_
   (try simp (disch:=omega) only [go_sem,simprocAttr,zD,zE,hrl2])
   refine qmX 200 (F:=179) (fn:=f179) (T:=63) (T':=4) (e:=67) (b1:=1) (g1:=0) (off1:=0) (len1:=1) (b2:=2) (g2:=1) (off2:=((i:Int)+1).toNat) (len2:=l.length+1 - ((i:Int)+1).toNat) (sz:=2) (s1:=2) (s2:=2) (rows1:=ir eII [m]) (rows2:=ir eII l++ [[.p (.sc u1), .p (.sc u2)]])
    (by((try refine zW ?_);(try with_reducible exact True.intro))) func179 (by kernel_rfl) (by kernel_rfl) (by kernel_rfl) (by kernel_rfl) (by kernel_rfl) (by kernel_rfl) (by((try refine zW ?_);(try with_reducible exact True.intro))) (by((try refine zW ?_);(try with_reducible exact True.intro))) (by decide) (by decide) (by omega) (by decide) (by((try refine zW ?_);(try with_reducible exact True.intro))) (by((try refine zW ?_);(try with_reducible exact True.intro))) rfl rfl ?_
   (try simp (disch:=omega) only [go_sem,simprocAttr,zD,zE,hrl2])
   (refine zM [0,1,2,7] ?_;refine zI [none,none,none,none,none,none,none,none,some []] ?_)
   (try simp (disch:=omega) only [go_sem,simprocAttr,zD,zE,hrl2])
   rw [qqF l m i hlt]
   exact pvs2_ir _
end Go.Proofs.NO
/- Plain law of merging: rows are put in the order of their keys (insertion sort, as the library does it); two rows of one key are an error. -/
namespace Go.GN
section
variable {α:Type}
def swp (l:List α) (j:Nat) (x y:α):List α:=(l.set (j+1) y).set j x
def sink (lt:α→α→Bool):Nat→List α→List α
 | 0,l=>l
 | j+1,l=>match l[j+1]?,l[j]? with
   | some x,some y=>if lt x y then sink lt j (swp l j x y) else l
   | _,_=>l
def ins (lt:α→α→Bool):Nat→Nat→List α→List α
 | 0,_,l=>l
 | f+1,i,l=>ins lt f (i+1) (sink lt i l)
def qdn (lt:α→α→Bool) (l:List α):List α:=ins lt (l.length - 1) 1 l
theorem qi3 (M:List α) (j:Nat) (x y:α):(swp M j x y).length=M.length:=by simp [swp]
theorem qlU (lt:α→α→Bool): ∀(j:Nat) (l:List α),(sink lt j l).length=l.length
 | 0,l=>rfl
 | j+1,l=>by
   rw [sink]
   split
   ·split
    ·rw [qlU lt j,qi3]
    ·rfl
   ·rfl
def insR (lt:α→α→Bool) (x:α):List α→List α
 | []=> [x]
 | y::r=>if lt x y then y::insR lt x r else x::y::r
theorem qjM (lt:α→α→Bool) (x:α): ∀(A B:List α),sink lt A.length (A.reverse++x::B)=(insR lt x A).reverse++B
 | [],B=>by simp [sink,insR]
 | y::A,B=>by
   have hx:((y::A).reverse++x::B)[A.length+1]? =some x:=by
    rw [List.getElem?_append_right (by simp)];simp
   have hy:((y::A).reverse++x::B)[A.length]? =some y:=by
    rw [List.getElem?_append_left (by simp),List.reverse_cons,List.getElem?_append_right (by simp)];simp
   rw [List.length_cons,sink,hx,hy]
   simp only
   unfold insR
   by_cases h:lt x y=true
   ·rw [if_pos h,if_pos h]
    have:swp ((y::A).reverse++x::B) A.length x y=A.reverse++x::(y::B):=by
     unfold swp
     rw [List.reverse_cons,List.append_assoc,List.set_append_right _ _ (by simp),List.set_append_right _ _ (by simp)]
     simp
    rw [this,qjM lt x A (y::B)]
    simp
   ·rw [if_neg h,if_neg h]
    simp
theorem qd9 (lt:α→α→Bool) (x:α): ∀(A:List α),(insR lt x A).Perm (x::A)
 | []=> .refl _
 | y::A=>by
   unfold insR
   split
   ·exact((qd9 lt x A).cons y).trans (.swap ..)
   ·exact .refl _
theorem qqD {lt:α→α→Bool} {x z:α} {A:List α}:z∈insR lt x A↔z=x∨z∈A:=by
 rw [(qd9 lt x A).mem_iff,List.mem_cons]
end
section
variable {α:Type} (key:α→Int)
def ltK (x y:α):Bool:=decide (key x < key y)
theorem qjo (x:α): ∀(A:List α),A.Pairwise (fun a b=>key b≤key a)→(insR (ltK key) x A).Pairwise (fun a b=>key b≤key a)
 | [],_=>List.pairwise_singleton ..
 | y::A,h=>by
   obtain⟨h1,h2⟩:=List.pairwise_cons.1 h
   unfold insR
   by_cases hc:ltK key x y=true
   ·rw [if_pos hc]
    unfold ltK at hc
    rw [decide_eq_true_eq] at hc
    refine List.pairwise_cons.2 ⟨fun z hz=>?_,qjo x A h2⟩
    rcases qqD.1 hz with rfl | hz
    ·omega
    ·exact h1 z hz
   ·rw [if_neg hc]
    unfold ltK at hc
    rw [decide_eq_true_eq] at hc
    refine List.pairwise_cons.2 ⟨fun z hz=>?_,h⟩
    rcases List.mem_cons.1 hz with rfl | hz
    ·omega
    ·have:=h1 z hz;omega
def qci:List α→List α→List α
 | [],A=>A.reverse
 | x::B,A=>qci B (insR (ltK key) x A)
theorem qhT: ∀(B:List α) (A:List α),ins (ltK key) B.length A.length (A.reverse++B)=qci key B A
 | [],A=>by simp [ins,qci]
 | x::B,A=>by
   rw [List.length_cons,ins,qjM,qci,←qhT B]
   rw [(qd9 (ltK key) x A).length_eq,List.length_cons]
theorem qf4 (l:List α):qdn (ltK key) l=qci key l []:=by
 cases l with
 | nil=>rfl
 | cons x B=>exact qhT key B [x]
theorem qgO: ∀(B A:List α),(qci key B A).Perm (A++B)
 | [],A=>by rw [qci,List.append_nil];exact List.reverse_perm A
 | x::B,A=>by
   rw [qci]
   refine(qgO B _).trans ?_
   exact((qd9 _ x A).append_right B).trans (List.perm_middle.symm)
theorem qjP: ∀(B A:List α),A.Pairwise (fun a b=>key b≤key a)→(qci key B A).Pairwise (fun a b=>key a≤key b)
 | [],A,h=>by rw [qci,List.pairwise_reverse];exact h
 | x::B,A,h=>by rw [qci];exact qjP B _ (qjo key x A h)
theorem qfh (l:List α):(qdn (ltK key) l).Perm l:=by rw [qf4];exact qgO key l []
theorem qg5 (l:List α):(qdn (ltK key) l).Pairwise (fun a b=>key a≤key b):=by rw [qf4];exact qjP key l [] .nil
def qef:List α→Bool
 | x::y::r=>decide (key x=key y) || qef (y::r)
 | _=>false
theorem qdY: ∀ {l:List α},l.Pairwise (fun a b=>key a≤key b)→qef key l=false→l.Pairwise (fun a b=>key a < key b)
 | [],_,_=> .nil
 | [x],_,_=>List.pairwise_singleton ..
 | x::y::r,h,t=>by
   unfold qef at t
   rw [Bool.or_eq_false_iff,decide_eq_false_iff_not] at t
   obtain⟨h1,h2⟩:=List.pairwise_cons.1 h
   have ih:=qdY h2 t.2
   refine List.pairwise_cons.2 ⟨fun z hz=>?_,ih⟩
   have hy:=h1 y (List.mem_cons_self ..)
   rcases List.mem_cons.1 hz with rfl | hz
   ·omega
   ·have:=(List.pairwise_cons.1 ih).1 z hz;omega
theorem qeg: ∀ {l:List α},l.Pairwise (fun a b=>key a < key b)→qef key l=false
 | [],_=>rfl
 | [_],_=>rfl
 | x::y::r,h=>by
   obtain⟨h1,h2⟩:=List.pairwise_cons.1 h
   have:=h1 y (List.mem_cons_self ..)
   unfold qef
   rw [Bool.or_eq_false_iff,decide_eq_false_iff_not]
   exact⟨by omega,qeg h2⟩
theorem qgJ: ∀ {l k:List α},l.Perm k→l.Pairwise (fun a b=>key a < key b)→k.Pairwise (fun a b=>key a < key b)→l=k
 | [],k,p,_,_=>(List.nil_perm.1 p).symm
 | x::l, [],p,_,_=>List.perm_nil.1 p
 | x::l,y::k,p,hl,hk=>by
   obtain⟨h1,h2⟩:=List.pairwise_cons.1 hl
   obtain⟨k1,k2⟩:=List.pairwise_cons.1 hk
   have e:x=y:=by
    rcases List.mem_cons.1 (p.mem_iff.1 (List.mem_cons_self (a:=x) (l:=l))) with h | h
    ·exact h
    ·rcases List.mem_cons.1 (p.mem_iff.2 (List.mem_cons_self (a:=y) (l:=k))) with g | g
     ·exact g.symm
     ·have a:=k1 x h
      have b:=h1 y g
      omega
   subst e
   rw [qgJ ((List.perm_cons _).1 p) h2 k2]
def qgn (l k:List α):Option (List α):=let s:=qdn (ltK key) (l++k);if qef key s then none else some s
theorem qfa {l k s:List α}:qgn key l k=some s↔s.Perm (l++k)∧s.Pairwise (fun a b=>key a < key b):=by
 unfold qgn
 constructor
 ·intro h
  simp only at h
  split at h
  ·cases h
  ·rename_i ht
   cases h
   exact⟨qfh key _,qdY key (qg5 key _) (by simpa using ht)⟩
 ·rintro⟨p,r⟩
  have q:=qfh key (l++k)
  have nd:(s.map key).Nodup:=by
   rw [List.nodup_iff_pairwise_ne,List.pairwise_map]
   exact r.imp fun h=>by omega
  have nd2:((qdn (ltK key) (l++k)).map key).Nodup:=((p.trans q.symm).map key).nodup_iff.1 nd
  have r2:(qdn (ltK key) (l++k)).Pairwise (fun a b=>key a < key b):=by
   rw [List.nodup_iff_pairwise_ne,List.pairwise_map] at nd2
   exact(nd2.and (qg5 key (l++k))).imp fun⟨a,b⟩=>by omega
  have e:=qgJ key (p.trans q.symm) r r2
  simp only
  rw [qeg key r2,e]
  rfl
end
end Go.GN
