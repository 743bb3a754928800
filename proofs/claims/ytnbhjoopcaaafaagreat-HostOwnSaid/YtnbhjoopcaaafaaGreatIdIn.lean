/-
 Where a slice's room is asked for: the run by hand, at one memory.
-/
import Derived.Test.YtnbhjoopcaaafaaGreatIdFm
import Derived.Lib.Overlaps
set_option linter.unusedSimpArgs false
set_option linter.unusedVariables false
namespace Go.Idl
variable {P:Program} {h0:IH}
theorem irun_dir {c:Code} {k:List It} {S:IState} {Q:Exit→IState→Prop} (h: ∀M0,HRel h0.nx h0.m M0→ ∀M a,MStep M0 M→SRel h0 S M a→c.wp P (IPost h0 M0 fun e S'=>after P h0 Q k e S') a M.w):
  IRun P h0 (.code c::k) S Q:=h
theorem dir_irun {c:Code} {k:List It} {S:IState} {Q:Exit→IState→Prop} (h:IRun P h0 (.code c::k) S Q) {M0:Mem} (hM0:HRel h0.nx h0.m M0) {M:Mem} {a:Act} (hs:MStep M0 M) (hr:SRel h0 S M a):
  c.wp P (IPost h0 M0 fun e S'=>after P h0 Q k e S') a M.w:=h M0 hM0 M a hs hr
theorem wp_fop {all:Array Oper} {o:Oper} {r:List Oper} {S:IState} {M:Mem} {a:Act} {fr:FR} {Qx:Exit→Act→World→Prop} (hr:SRel h0 S M a) (hw:iwant all S.s o=some true)
  (hf:fop P (ev S.s) (look (S.l++h0.m)) S.nx all o.dst o.op=some fr) (hd:dstOk S o.dst=true)
  (h: ∀v M',MStep M M'→SRel h0 (S.put o.dst fr.x (S.nx+fr.F.length) fr.W.reverse) M' (a.put o.dst v)→wpList P all Qx r (a.put o.dst v) M'.w):wpList P all Qx (o::r) a M.w:=by
 obtain⟨hdo,hfit⟩:=fop_sound hf
 refine wpList_step fun K hK=>?_
 rw [if_pos (want_rel hr hw)]
 refine hdo M a hr.heap.rel (fun p hp=>by rw [hr.heap.G];exact hfit.reads p hp) (fun b hb=>?_) (fun y _ z hz=>ev_rel hr.slot hz) K _ fun v M' st rel hH hv=>?_
 ·rcases hfit.new with ⟨hF,_⟩ | ⟨hF,_⟩
  ·rw [hF] at hb;cases hb
  ·rw [hF] at hb
   simp only [List.mem_cons,List.not_mem_nil,or_false] at hb
   subst hb
   exact fun hb=>Nat.lt_irrefl _ (hr.heap.A _ hb)
 ·refine hK _ _ (h v M' st (hr.step st hd hv ?_))
  have:=hr.heap.upd rel hH (S.nx+fr.F.length) (fits_dom hr.heap hfit)
  rw [List.append_assoc]
  exact this
theorem keep_β {M M':Mem} (st:MStep M M') {b:Nat} {blk:IBlk} (hA:M.H.A b) (h:M.H.G b=some blk) (h':M'.H.G b=some blk):M'.β b=M.β b:=by
 obtain⟨blk0,e0,_,_,_,he⟩:=st.comp b blk hA h'
 rw [h] at e0;cases e0;exact(he rfl).1
theorem wp_cap {all:Array Oper} {y:Operand} {T ty e:TypeId} {pos:String} {aft:Array Edge} {dst:Option Tmp} {r:List Oper} {S:IState} {M:Mem} {a:Act} {Qx:Exit→Act→World→Prop} {b g off len sz:Nat} {rows:List (List IV)}
  (hr:SRel h0 S M a) (ht:tel P T=some e) (hy:ev S.s y=some (.ref b g off len)) (hb:look (S.l++h0.m) b=some (.arr sz g rows)) (hd:dstOk S dst=true)
  (h: ∀(ad:Option Addr) (cap:Nat),a.eval y= .slice ad len cap→refOk (M.β b) sz rows.length off len (.slice ad len cap)→
   SRel h0 (S.put dst (sci .i64 cap) S.nx []) M (a.put dst (.int .i64 cap))→wpList P all Qx r (a.put dst (.int .i64 cap)) M.w):
  wpList P all Qx (⟨dst, .call {callee:= .builtin .cap,args:=#[y],argTypes:=#[T]},ty,pos,aft,none⟩::r) a M.w:=by
 refine wpList_step fun K hK=>?_
 rw [if_pos (want_rel hr (show iwant all S.s ⟨dst,_,ty,pos,aft,none⟩=some true from rfl))]
 have hv:=ev_rel hr.slot hy
 have hG:M.H.G b=some (.arr sz g rows):=by rw [hr.heap.G];exact hb
 have hok:refOk (M.β b) sz rows.length off len (a.eval y):=by
  generalize a.eval y=q at hv
  cases hv with
  | ref _ _ _ _ _ hA hv h=>exact(h _ hG).2 rfl
 obtain⟨ad,cap,e1,e2⟩:=id hok
 rw [e1] at hok
 have hrun:(execOp a.eval ⟨dst, .call {callee:= .builtin .cap,args:=#[y],argTypes:=#[T]},ty,pos,aft,none⟩).run P M.w= .ok (.value (.int .i64 cap)) M.w:=by
  simp [execOp,resolve,invoke,builtin,e1,Builtin.cap_,run_underlying (und_tel ht),goInt]
 unfold Oper.wp
 rw [hrun]
 exact hK _ _ (h ad cap e1 hok (hr.step (.refl M) hd (.p _ _ (.sc _)) hr.heap))
theorem mem_reg {M:Mem} (h:MRel M) {b sz g:Nat} {rows:List (List IV)} {c o n:Nat} (hb:M.H.G b=some (.arr sz g rows)) (hβ:M.β b=some (c,o,n)) (g' n':Nat) (rows':List (List IV)) (hg:g < g')
  (hB: ∀M':Mem,MStep M M'→M'.w=M.w→M'.β b=some (c,o,n')→BRel M' b (.arr sz g' rows')):
  MStep M ⟨M.w,M.H.put b (.arr sz g' rows'),putβ M.β b (some (c,o,n'))⟩∧MRel ⟨M.w,M.H.put b (.arr sz g' rows'),putβ M.β b (some (c,o,n'))⟩:=by
 have hown:M.own c:= .inr ⟨b,_,o,n,hb,hβ⟩
 have s:MStep M ⟨M.w,M.H.put b (.arr sz g' rows'),putβ M.β b (some (c,o,n'))⟩:=by
  refine⟨rfl,rfl,rfl,Nat.le_refl _,fun c' hc' ho=>⟨rfl,?_⟩,fun _ h=> .inl h,fun b' blk' hA' hb'=>?_,rfl,fun c' hc'=>rfl⟩
  ·rintro(hO | ⟨b',blk,o'',n'',hb',hc''⟩)
   ·exact ho (.inl hO)
   by_cases e:b'=b
   ·simp only [putβ,e,if_true,Option.some.injEq,Prod.mk.injEq] at hc''
    exact ho (hc''.1 ▸hown)
   ·simp only [AH.put,putβ,e,if_false] at hb' hc''
    exact ho (.inr ⟨b',blk,o'',n'',hb',hc''⟩)
  ·by_cases e:b'=b
   ·subst e
    simp only [AH.put,if_true,Option.some.injEq] at hb'
    subst hb'
    exact⟨_,hb,rfl,rfl,Nat.le_of_lt hg,fun e=>by simp only [IBlk.gen] at e;omega⟩
   ·simp only [AH.put,e,if_false] at hb'
    exact⟨blk',hb',rfl,rfl,Nat.le_refl _,fun _=>⟨by simp [putβ,e],rfl⟩⟩
 refine⟨s,h.change s b (.inr rfl) ?_ ?_ ?_ ?_ ?_ ?_⟩
 ·intro b' e;simp [AH.put,e]
 ·intro b' e;simp [putβ,e]
 ·intro b' blk c' o'' n'' e hb' hc';rfl
 ·intro blk' hb'
  simp only [AH.put,if_true,Option.some.injEq] at hb'
  subst hb'
  exact hB _ s rfl (by simp [putβ])
 ·intro blk' c' o'' n'' hb' hc' b' blk o3 n3 e hb'' hc''
  simp only [putβ,if_true,Option.some.injEq,Prod.mk.injEq] at hc'
  obtain⟨rfl,rfl,rfl⟩:=hc'
  exact e (h.inj b' b blk _ c o3 n3 o n hb'' hb hc'' hβ)
 ·intro blk' c' o'' n'' _ hc' hO
  simp only [putβ,if_true,Option.some.injEq,Prod.mk.injEq] at hc'
  obtain⟨rfl,rfl,rfl⟩:=hc'
  exact h.odis b _ c o n hb hβ hO
theorem srel_reg {S:IState} {M:Mem} {a:Act} (hr:SRel h0 S M a) {b sz g t:Nat} {rows:List (List IV)} {c o n:Nat} (hb:look (S.l++h0.m) b=some (.arr sz g rows)) (hβ:M.β b=some (c,o,n)) (g' n':Nat) (rows':List (List IV))
  (hg:g < g') (hB: ∀M':Mem,MStep M M'→M'.w=M.w→M'.β b=some (c,o,n')→BRel M' b (.arr sz g' rows')) {v:Value} (hv:a.tmps[t]? =some v) {len:Nat} (hrf:refOk (some (c,o,n')) sz rows'.length 0 len v):
  ∃M',M'.w=M.w∧MStep M M'∧M'.β b=some (c,o,n')∧SRel h0 ⟨S.n,(t, .ref b g' 0 len)::S.s,S.d,S.nx,(b, .arr sz g' rows')::S.l⟩ M' a:=by
 have hG:M.H.G b=some (.arr sz g rows):=by rw [hr.heap.G];exact hb
 obtain⟨st,rel⟩:=mem_reg hr.heap.rel hG hβ g' n' rows' hg hB
 refine⟨⟨M.w,M.H.put b (.arr sz g' rows'),putβ M.β b (some (c,o,n'))⟩,rfl,st,by simp [putβ],⟨⟨rel,fun b' hb'=>?_,fun b'=>?_⟩,hr.size,fun i y hy=>?_,hr.defs.step st⟩⟩
 ·rcases hb' with hb' | rfl
  ·exact hr.heap.A _ hb'
  ·exact hr.heap.A _ (hr.heap.rel.dom _ _ hG)
 ·simp only [AH.put,List.cons_append,look]
  by_cases e:b'=b
  ·subst e;simp
  ·rw [if_neg e,if_neg (fun h=>e h.symm)];exact hr.heap.G b'
 ·simp only [look] at hy
  split at hy
  ·rename_i e
   subst e
   cases hy
   obtain⟨ad,cap,e1,_⟩:=id hrf
   refine⟨v,hv, .ref b g' 0 len v (.inr rfl) ⟨ad,cap,e1⟩ fun blk hblk=>?_⟩
   simp only [AH.put,if_true,Option.some.injEq] at hblk
   subst hblk
   exact⟨Nat.le_refl _,fun _=>by simp only [putβ,if_true];exact hrf⟩
  ·obtain⟨u,u1,u2⟩:=hr.slot i y hy
   exact⟨u,u1,u2.step st⟩
theorem brel_full {M M':Mem} {b sz g g':Nat} {rows:List (List IV)} {c o n:Nat} (h:BRel M b (.arr sz g rows)) (hβ:M.β b=some (c,o,n)) (st:MStep M M') (hw:M'.w=M.w) (hβ':M'.β b=some (c,o,rows.length)):BRel M' b (.arr sz g' rows):=by
 obtain⟨r1,r2,r3⟩:=h
 obtain⟨cs,ty,q1,q2,q3,q4,q5⟩:=r3 c o n hβ
 refine⟨r1,fun hn=>(by rw [hβ'] at hn;cases hn),fun c' o' n' hc'=>?_⟩
 rw [hβ'] at hc'
 cases hc'
 refine⟨cs,ty,by rw [hw];exact q1,Nat.le_refl _,by omega,q4.sub (Nat.le_refl _) (Nat.add_le_add_left (Nat.mul_le_mul_right _ q2) _),fun i row j x hi hj=>?_⟩
 obtain⟨v,v1,v2,v3⟩:=q5 i row j x hi hj
 exact⟨v,v1,v2,v3.step st⟩
theorem brel_more {M:Mem} {b sz g g':Nat} {rows:List (List IV)} {c o n:Nat} (h:BRel M b (.arr sz g rows)) (hβ:M.β b=some (c,o,n)) (hn:rows.length < n):
  ∃raw:List Value,raw.length=sz∧ ∀M':Mem,MStep M M'→M'.w=M.w→M'.β b=some (c,o,n)→BRel M' b (.arr sz g' (rows++ [raw.map fun v=> .p (.sc v)])):=by
 obtain⟨r1,r2,r3⟩:=h
 obtain⟨cs,ty,q1,q2,q3,q4,q5⟩:=r3 c o n hβ
 have hk:(rows.length+1) * sz≤n * sz:=Nat.mul_le_mul_right _ hn
 rw [Nat.add_mul,Nat.one_mul] at hk
 have hsz:=q4.1
 refine⟨(List.range sz).map fun j=>cs[o+(rows.length * sz+j)]!,by simp,fun M' st hw hβ'=>⟨fun row hrow=>?_,fun hn=>(by rw [hβ'] at hn;cases hn),fun c' o' n' hc'=>?_⟩⟩
 ·rcases List.mem_append.1 hrow with h | h
  ·exact r1 row h
  ·rw [List.mem_singleton.1 h];simp
 ·rw [hβ'] at hc'
  cases hc'
  refine⟨cs,ty,by rw [hw];exact q1,by simp;omega,q3,q4,fun i row j x hi hj=>?_⟩
  rw [List.getElem?_append] at hi
  split at hi
  ·obtain⟨v,v1,v2,v3⟩:=q5 i row j x hi hj
   exact⟨v,v1,v2,v3.step st⟩
  ·have hi0:i - rows.length=0:=by
    have:=lt_of_get hi
    simpa using this
   rw [hi0] at hi
   simp only [List.getElem?_cons_zero,Option.some.injEq] at hi
   subst hi
   have hjs:j < sz:=by have:=lt_of_get hj;simpa using this
   have hil:i=rows.length:=by omega
   subst hil
   have hlt:o+(rows.length * sz+j) < cs.size:=by omega
   rw [List.getElem?_map,List.getElem?_map,List.getElem?_range hjs] at hj
   simp only [Option.map_some,Option.some.injEq] at hj
   subst hj
   have hget:cs[o+(rows.length * sz+j)]? =some cs[o+(rows.length * sz+j)]! :=by rw [getElem!_pos cs _ hlt,Array.getElem?_eq_getElem hlt]
   exact⟨_,hget,q4.2 _ _ (by omega) hget, .p _ _ (.sc _)⟩
theorem run_append_zeros2 {t1 t2 ty e:TypeId} {sz by_:Nat} {zs olds:List Value} {i:TypeInfo} {z:Value} {ki:IntKind} (u1:P.underlying t1=some (.slice e)) (u2:P.underlying t2=some (.int ki))
  (inf:P.info? e=some i) (size:i.size=sz) (bytes:i.bytes=by_) (zero:i.zero=some z) (zcl:z.cells=⟨zs⟩) (zl:zs.length=sz)
  {k:IntKind} {sLen sCap n:Nat} {base:Option Addr} {w:World} (ho:(Builtin.firstCells sz sLen (.slice base sLen sCap)).run P w.drew= .ok ⟨olds⟩ w.drew)
  (h0:0 < n) (hgr:sCap < sLen+n) (h63:sLen+n≤maxLen) (hby:(sLen+n) * by_≤140737488355328):
  (Builtin.append_ #[t1,t2] ty #[.slice base sLen sCap, .int k (n:Int)]).run P w=
   .ok (.slice (some ⟨w.heap.size,0,none⟩) (sLen+n) (grownCap w (sLen+n) sCap e))
    (w.drew.alloc (.cells (⟨olds⟩++(if n * sz=0 then #[] else Builtin.zeroCells z.cells n)++Builtin.zeroCells z.cells (grownCap w (sLen+n) sCap e - (sLen+n))) e)):=by
 have hs: ∀w,(sizeOf e).run P w= .ok sz w:=run_sizeOf' (show tsz P e=some sz by simp [tsz,inf,size])
 have hn: ¬(sLen+n≤sCap):=by omega
 have hfit:=growslice_fits hgr hby
 have h48: ¬(Builtin.nextslicecap (sLen+n) sCap * by_ > 2 ^ 48):=by simp only [Nat.reducePow];omega
 have hmx:IntKind.i64.max=9223372036854775807:=by decide
 have hw:IntKind.i64.wrap (n:Int)=n:=by
  unfold maxLen at h63
  rw [IntKind.wrap_i64];omega
 have hl0: ¬((n:Int) < 0):=by omega
 have hb0: ¬((n:Int) * (by_:Int) > 2 ^ 48):=by
  have h1:(n:Int) * (by_:Int)=((n * by_:Nat):Int):=by simp
  have h2:n * by_≤(sLen+n) * by_:=Nat.mul_le_mul_right _ (by omega)
  rw [h1];omega
 have hti: ∀w,(typeInfo e).run P w= .ok i w:=fun w=>by simp [typeInfo,inf]
 have hze: ∀w,(zeroValue e).run P w= .ok z w:=fun w=>by simp [zeroValue,typeInfo,inf,zero]
 have hch: ∀w,(choose (.appendCap (sLen+n) sCap e)).run P w= .ok (grownCap w (sLen+n) sCap e) w.drew:=fun w=>by simp [Question.forced,grownCap]
 have has: ∀w,(asInt (.int k (n:Int))).run P w= .ok (n:Int) w:=fun w=>by simp [asInt,asIntOf]
 have hgt: ¬(((sLen+n:Nat):Int) > IntKind.i64.max∧(True∨by_=0)):=by
  rw [hmx];unfold maxLen at h63;omega
 unfold Builtin.append_
 simp only [List.getElem?_toArray,List.getElem?_cons_zero,List.getElem?_cons_succ,Sem.run_bind,run_underlying u1,Result.andThen_ok,run_underlying u2,Sem.run_pure,hs,if_true,has,hw,hl0,if_false,hti,bytes,hb0,Int.toNat_natCast,hn,
  hgt,h48,hch,run_askRoom,ho,Bool.not_true,Bool.false_eq_true]
 by_cases hz:n * sz=0
 ·simp only [hz,if_true,if_false,hn,hgt,Sem.run_pure,Result.andThen_ok,Sem.run_bind,hti,bytes,h48,hch,run_askRoom,ho,hze,newRow,run_newObj,World.alloc_eq,World.size_drew]
 ·simp only [hz,if_true,if_false,hn,hgt,Sem.run_pure,Result.andThen_ok,Sem.run_bind,hti,bytes,h48,hch,run_askRoom,ho,hze,newRow,run_newObj,World.alloc_eq,World.size_drew]
theorem wp_appfull {all:Array Oper} {y x:Operand} {t1 t2 ty e:TypeId} {pos:String} {aft:Array Edge} {dst:Option Tmp} {r:List Oper} {S:IState} {M:Mem} {a:Act} {Qx:Exit→Act→World→Prop}
  {b g c o i k sz by_:Nat} {rows:List (List IV)} {zs:List Value} {ki kj:IntKind} (hr:SRel h0 S M a) (hy:ev S.s y=some (.ref b g 0 i)) (hx:ev S.s x=some (sci kj (k:Int))) (hb:look (S.l++h0.m) b=some (.arr sz g rows))
  (hβ:M.β b=some (c,o,rows.length)) (ht1:tel P t1=some e) (ht2:P.underlying t2=some (.int ki)) (hsz:tsz P e=some sz) (hby:tby P e=some by_) (hze:tze P e=some zs) (hz1:zs.length=sz) (hz2:zs.all (·.oneCell')=true)
  (hi:i≤rows.length) (hlt:rows.length < i+k) (hk:0 < k) (hbig:(i+k) * by_≤140737488355328) (h63:i+k≤9223372036854775807) (hd:dstOk S dst=true)
  (h: ∀v M',MStep M M'→SRel h0 (S.put dst (.ref S.nx 0 0 (i+k)) (S.nx+1) [(S.nx, .arr sz 0 (rows.take i++List.replicate k (zcs zs)))]) M' (a.put dst v)→wpList P all Qx r (a.put dst v) M'.w):
  wpList P all Qx (⟨dst, .call {callee:= .builtin .append,args:=#[y,x],argTypes:=#[t1,t2]},ty,pos,aft,none⟩::r) a M.w:=by
 refine wpList_step fun K hK=>?_
 rw [if_pos (want_rel hr (show iwant all S.s ⟨dst,_,ty,pos,aft,none⟩=some true from rfl))]
 have hM:=hr.heap.rel
 have hv:=ev_rel hr.slot hy
 have e2:=(ev_rel hr.slot hx).sc_inv
 have hG:M.H.G b=some (.arr sz g rows):=by rw [hr.heap.G];exact hb
 have hF: ¬M.H.A S.nx:=fun h=>Nat.lt_irrefl _ (hr.heap.A _ h)
 have hok:refOk (M.β b) sz rows.length 0 i (a.eval y):=by
  generalize a.eval y=q at hv
  cases hv with
  | ref _ _ _ _ _ hA hv h=>exact(h _ hG).2 rfl
 obtain⟨ad,cap,e1,c1,c2,c3,c4⟩:=hok
 have hcap:cap≤rows.length:=by
  rcases c4 with h | ⟨c',o',n',h1,_,h3⟩
  ·omega
  ·rw [hβ] at h1;cases h1;omega
 cases hinf:P.info? e with
 | none=>simp [tsz,hinf] at hsz
 | some inf=>
   simp only [tsz,tby,tze,hinf,Option.map_some,Option.some.injEq,Option.bind_some] at hsz hby hze
   cases hiz:inf.zero with
   | none=>simp [hiz] at hze
   | some z=>
     simp only [hiz,Option.map_some,Option.some.injEq] at hze
     have hzc:z.cells=⟨zs⟩:=by rw [←hze]
     have hzl:z.cells.size=sz:=by rw [hzc];simpa using hz1
     have s1:=MStep.drew M
     have hM1:=hM.drew
     have hap:iapp M.H.G sz (.ref b g 0 i)=some (rows.take i, [(b, .arr sz g rows)]):=by
      simp [iapp,irows,hG]
     have hRm: ∀p∈ [(b,IBlk.arr sz g rows)],M.H.G p.1=some p.2:=by simp [hG]
     obtain⟨olds,hA⟩:=iapp_sound (P:=P) hap hM1 hRm (hv.step s1)
     have hl:(rows.take i).length=i:=by rw [List.length_take];omega
     have hget:=hA.get
     rw [hl,e1] at hget
     have hnl:=hA.nl
     rw [hl] at hnl
     have hrun:=run_append_zeros2 (P:=P) (ty:=ty) (und_tel ht1) ht2 hinf hsz hby hiz hzc hz1 (k:=kj) (sLen:=i) (sCap:=cap) (n:=k) (base:=ad) (w:=M.w) hget hk (by omega) (by unfold maxLen;omega) hbig
     have hge:=grownCap_ge M.w (i+k) cap e
     have hmx:=grownCap_le_maxLen M.w (i+k) cap e (by unfold maxLen;omega)
     generalize grownCap M.w (i+k) cap e=C at *
     have hrest:(Builtin.zeroCells z.cells (C - (i+k))).size=(C - (i+k)) * sz:=by rw [←Array.length_toList,zeroCells_len,hzl]
     have hnew:(if k * sz=0 then #[] else Builtin.zeroCells z.cells k).size=k * sz:=by
      split
      ·rename_i h0;rw [h0];rfl
      ·rw [←Array.length_toList,zeroCells_len,hzl]
     have hz3: ∀u∈z.cells.toList,u.oneCell'=true:=fun u hu=>by
      rw [hzc] at hu
      exact List.all_eq_true.1 hz2 u hu
     have hza:=zcs_are (⟨M.w.drew,M.H,M.β⟩:Mem) hz2
     obtain⟨s2,r2⟩:=mem_new hM1 S.nx hF sz 0 C (rows.take i++List.replicate k (zcs zs)) (⟨olds⟩++(if k * sz=0 then #[] else Builtin.zeroCells z.cells k)++Builtin.zeroCells z.cells (C - (i+k))) e
      (by
       intro row hrow
       rcases List.mem_append.1 hrow with h | h
       ·exact hA.wid row h
       ·rw [List.eq_of_mem_replicate h];simpa [zcs] using hz1)
      (by rw [List.length_append,hl,List.length_replicate];exact hge) hmx
      (Roomy.all (by
       rw [Array.size_append,Array.size_append,hnew,hrest,List.size_toArray,hnl,←Nat.add_mul,←Nat.add_mul]
       exact Nat.mul_le_mul_right _ (by omega)) (by
       intro v hv
       rw [Array.toList_append,Array.toList_append,List.mem_append,List.mem_append] at hv
       rcases hv with (h | h) | h
       ·exact hA.one v h
       ·split at h
        ·simp at h
        ·exact zeroCells_one hz3 v h
       ·exact zeroCells_one hz3 v h))
      (by
       have key:=app_cells (M:= {M with w:=M.w.drew}) (rs:=rows.take i) (rx:=List.replicate k (zcs zs)) (sz:=sz) (o':=0) (a:=⟨olds⟩++(if k * sz=0 then #[] else Builtin.zeroCells z.cells k)++Builtin.zeroCells z.cells (C - (i+k)))
        (by
         intro i' row j y hi hj
         obtain⟨u,u1,u2,u3⟩:=hA.rel i' row j y hi hj
         refine⟨u,?_,u2,u3⟩
         have hlt:=lt_of_get u1
         rw [Nat.zero_add,Array.getElem?_append,if_pos (by simp only [Array.size_append,List.size_toArray];omega),Array.getElem?_append,if_pos (by simpa using hlt)]
         simpa using u1)
        (by
         intro i' row j y hi' hj
         have hi2:i' < k:=by have:=lt_of_get hi';simpa using this
         rw [List.getElem?_replicate,if_pos hi2] at hi'
         cases hi'
         obtain⟨v,v1,v2,v3⟩:=hza.get hj
         have hjl:j < zs.length:=lt_of_get v1
         refine⟨v,?_,v2,v3⟩
         have hlt:i' * sz+j < k * sz:=flat_lt hi2 (by omega)
         rw [hl,Nat.zero_add,Array.getElem?_append,if_pos (by simp only [Array.size_append,List.size_toArray,hnew,hnl];omega),Array.getElem?_append,if_neg (by simp only [List.size_toArray,hnl];omega),if_neg (by omega),List.size_toArray,hnl,
          Nat.add_sub_cancel_left,←Array.getElem?_toList,zeroCells_get (by rw [hzl];exact hlt),hzl,Nat.mul_comm,Nat.mul_add_mod,Nat.mod_eq_of_lt (by omega),hzc]
         simpa using v1)
       intro i' row j y hi hj
       have:=key i' row j y hi hj
       simpa using this)
     have hwp:(execOp a.eval ⟨dst, .call {callee:= .builtin .append,args:=#[y,x],argTypes:=#[t1,t2]},ty,pos,aft,none⟩).run P M.w= .ok (.value (.slice (some ⟨M.w.heap.size,0,none⟩) (i+k) C)) (M.w.drew.alloc (.cells (⟨olds⟩++(if k * sz=0 then #[] else Builtin.zeroCells z.cells k)++Builtin.zeroCells z.cells (C - (i+k))) e)):=by
      simp only [execOp,resolve,invoke,builtin,Sem.run_bind,Sem.run_pure,Result.andThen_ok,List.map_toArray,List.map_cons,List.map_nil,e1,e2,hrun]
     unfold Oper.wp
     rw [hwp]
     have st:=s1.trans s2
     refine hK _ _ (h _ _ st (hr.step st hd (.ref S.nx 0 0 (i+k) _ (.inr rfl) ⟨_,_,rfl⟩ fun blk hblk=>?_) ?_))
     ·simp only [AH.put,if_true,Option.some.injEq] at hblk
      subst hblk
      exact⟨Nat.le_refl _,fun _=>⟨_,C,rfl,hge,by simp [IBlk.len,hl],by simp [IBlk.len,hl];exact hge, .inr ⟨M.w.heap.size,0,C,by simp [putβ],by simp,by omega⟩⟩⟩
     ·have:=hr.heap.upd r2 (W:= [(S.nx, .arr sz 0 (rows.take i++List.replicate k (zcs zs)))]) rfl (S.nx+1) (fun b hb=>by
       rcases hb with hb | ⟨blk,hb⟩
       ·omega
       ·simp only [List.mem_singleton,Prod.mk.injEq] at hb;omega)
      rw [List.append_assoc]
      exact this
theorem at_overlaps (n:Nat) {Q:Exit→IState→Prop} {k:List It} {all:Array Oper} {r:List Oper} {dst:Option Tmp} {ty:TypeId} {pos:String} {aft:Array Edge} {N:Nat} {s:List (Nat × IV)} {d:List IDef} {nx:Nat} {l:List (Nat × IBlk)}
  {f x y:Operand} {ts:Array TypeId} {F:FuncId} {fn:Func} {T T' e:TypeId} {b1 g1 off1 len1 b2 g2 off2 len2 sz s1 s2:Nat} {rows1 rows2:List (List IV)}
  (hf:ev s f=some (.p (.sc (.func (.func F) #[] #[])))) (hfn:P.funcs[F]? =some fn) (hname:(fn.name== "runtime.NumGoroutine")=false) (hbody:fn.body.isNone=true) (hnx:Extern.findNext fn=none)
  (he:Extern.find fn=some (Extern.SlicesOverlaps.overlaps #[T,T] #[T'])) (ht:tel P T=some e) (hsz:tsz P e=some sz)
  (hx:ev s x=some (.ref b1 g1 off1 len1)) (hy:ev s y=some (.ref b2 g2 off2 len2)) (hne:b1≠b2) (hl1:0 < len1) (hl2:0 < len2) (hsz0:0 < sz)
  (hb1:look (l++h0.m) b1=some (.arr s1 g1 rows1)) (hb2:look (l++h0.m) b2=some (.arr s2 g2 rows2)) (hs2:s2=sz) (hd:dOk N dst=true)
  (h:vc P h0 Q n (.ops all r::k) ⟨N,putS dst (scb false) s,d,nx,l⟩):
  IRun P h0 (.ops all (⟨dst, .call {callee:= .value f,args:=#[x,y],argTypes:=ts},ty,pos,aft,none⟩::r)::k) ⟨N,s,d,nx,l⟩ Q:=by
 intro M0 hM0 M a hs hr
 refine wpList_step fun K hK=>?_
 rw [if_pos (want_rel hr (show iwant all s ⟨dst,_,ty,pos,aft,none⟩=some true from rfl))]
 have hM:=hr.heap.rel
 have ef:=(ev_rel hr.slot hf).sc_inv
 have vx:=ev_rel hr.slot hx
 have vy:=ev_rel hr.slot hy
 have G1:M.H.G b1=some (.arr s1 g1 rows1):=by rw [hr.heap.G];exact hb1
 have G2:M.H.G b2=some (.arr s2 g2 rows2):=by rw [hr.heap.G];exact hb2
 have ok1:refOk (M.β b1) s1 rows1.length off1 len1 (a.eval x):=by
  generalize a.eval x=q at vx
  cases vx with
  | ref _ _ _ _ _ hA hv h=>exact(h _ G1).2 rfl
 have ok2:refOk (M.β b2) s2 rows2.length off2 len2 (a.eval y):=by
  generalize a.eval y=q at vy
  cases vy with
  | ref _ _ _ _ _ hA hv h=>exact(h _ G2).2 rfl
 obtain⟨a1,cap1,e1,p1,p2,p3,p4⟩:=ok1
 obtain⟨a2,cap2,e2,q1,q2,q3,q4⟩:=ok2
 obtain⟨c1,o1,n1,B1,A1,C1⟩:=p4.resolve_left (by omega)
 obtain⟨c2,o2,n2,B2,A2,C2⟩:=q4.resolve_left (by omega)
 obtain⟨_,_,w1⟩:=hM.blk b1 _ G1
 obtain⟨_,_,w2⟩:=hM.blk b2 _ G2
 obtain⟨cs1,ty1,H1,_,_,R1,_⟩:=w1 c1 o1 n1 B1
 obtain⟨cs2,ty2,H2,_,_,R2,_⟩:=w2 c2 o2 n2 B2
 have hcc:c1≠c2:=fun e=>hne (hM.inj _ _ _ _ c1 o1 n1 o2 n2 G1 G2 B1 (e ▸B2))
 have hk2:cs2.size≠0:=by
  have h1:=R2.1
  have:1 * sz≤n2 * sz:=Nat.mul_le_mul_right _ (by omega)
  rw [←hs2] at this
  omega
 have hrun:(callFunc F #[a.eval x,a.eval y]).run P M.w= .ok (.value (.bool false)) M.w:=by
  rw [run_callFunc_extern hfn hname hbody hnx he,e1,e2,A1,A2,
   Lib.run_overlaps_apart M.w T T' e (und_tel ht) sz (run_sizeOf' hsz) _ _ _ _ _ _ (by simpa using hcc) ty1 ty2 cs1.size cs2.size (by simp [World.shape?,H1]) (by simp [World.shape?,H2]) hk2 (by simp [World.frozen?,H1]) (by simp [World.frozen?,H1])]
  rfl
 have hwp:(execOp a.eval ⟨dst, .call {callee:= .value f,args:=#[x,y],argTypes:=ts},ty,pos,aft,none⟩).run P M.w= .ok (.value (.bool false)) M.w:=by
  simp only [execOp,resolve,ef,Deferred.ofValue,Sem.run_bind,Sem.run_pure,Result.andThen_ok,invoke]
  simp only [List.append_toArray,List.nil_append,Array.append_empty,List.map_toArray,List.map_cons,List.map_nil,Array.empty_append]
  rw [hrun]
 unfold Oper.wp
 rw [hwp]
 have hd':dstOk ⟨N,s,d,nx,l⟩ dst=true:=by cases dst<;>simp_all [dOk,dstOk]
 have hr':=hr.step (.refl M) hd' (.p _ _ (.sc (.bool false)):VRel M (scb false) (.bool false)) (W:= []) (nx:=nx) hr.heap
 rw [put_eq] at hr'
 exact hK _ _ (vc_sound Q n _ _ h M0 hM0 M _ hs hr')
theorem gho_move {S:IState} (b t g':Nat) {sz g len:Nat} {rows:List (List IV)} (hb:look (S.l++h0.m) b=some (.arr sz g rows)) (ht:look S.s t=some (.ref b g 0 len)) (hg:g < g'):
  Gho h0 S ⟨S.n,(t, .ref S.nx 0 0 len)::S.s,S.d,S.nx+1,(b, .arr sz g' [])::(S.nx, .arr sz 0 rows)::S.l⟩:=by
 intro M a hr
 have hM:=hr.heap.rel
 have hA: ¬M.H.A S.nx:=fun h=>Nat.lt_irrefl _ (hr.heap.A _ h)
 have hG:M.H.G b=some (.arr sz g rows):=by rw [hr.heap.G];exact hb
 have hAb:=hM.dom _ _ hG
 have hne:b≠S.nx:=fun e=>hA (e ▸hAb)
 have hGn:M.H.G S.nx=none:=by
  cases h:M.H.G S.nx with
  | none=>rfl
  | some x=>exact absurd (hM.dom _ _ h) hA
 let M':Mem:=⟨M.w,(M.H.put S.nx (.arr sz 0 rows)).put b (.arr sz g' []),fun k=>if k=b then none else if k=S.nx then M.β b else M.β k⟩
 have G': ∀k,M'.H.G k=if k=b then some (.arr sz g' []) else if k=S.nx then some (.arr sz 0 rows) else M.H.G k:=fun k=>rfl
 have β': ∀k,M'.β k=if k=b then none else if k=S.nx then M.β b else M.β k:=fun k=>rfl
 have own': ∀c,M'.own c→M.own c:=by
  rintro c (h | ⟨k,blk,o,n,h1,h2⟩)
  ·exact .inl h
  ·rw [G'] at h1;rw [β'] at h2
   by_cases e:k=b
   ·rw [if_pos e] at h2;cases h2
   ·rw [if_neg e] at h1 h2
    by_cases e2:k=S.nx
    ·rw [if_pos e2] at h1 h2
     exact .inr ⟨b,_,o,n,hG,h2⟩
    ·rw [if_neg e2] at h1 h2
     exact .inr ⟨k,blk,o,n,h1,h2⟩
 have st:MStep M M':=by
  refine⟨rfl,rfl,rfl,Nat.le_refl _,fun c _ ho=>⟨rfl,fun h=>ho (own' c h)⟩,fun k hk=> .inl (.inl hk),fun k blk' hk hb'=>?_,rfl,fun _ _=>rfl⟩
  rw [G'] at hb'
  have e2:k≠S.nx:=fun e=>hA (e ▸hk)
  by_cases e:k=b
  ·subst e
   rw [if_pos rfl] at hb'
   cases hb'
   exact⟨_,hG,rfl,rfl,Nat.le_of_lt hg,fun e=>by simp only [IBlk.gen] at e;omega⟩
  ·rw [if_neg e,if_neg e2] at hb'
   exact⟨blk',hb',rfl,rfl,Nat.le_refl _,fun _=>⟨by rw [β',if_neg e,if_neg e2],rfl⟩⟩
 have rel:MRel M':=by
  refine⟨fun k blk hk=>?_,fun k blk hk=>?_,fun k k' blk blk' c o n o' n' h1 h2 c1 c2=>?_,hM.olt,fun k blk c o n h1 c1=>?_⟩
  ·rw [G'] at hk
   by_cases e:k=b
   ·subst e;exact .inl (.inl hAb)
   ·rw [if_neg e] at hk
    by_cases e2:k=S.nx
    ·exact .inl (.inr e2)
    ·rw [if_neg e2] at hk;exact .inl (.inl (hM.dom _ _ hk))
  ·rw [G'] at hk
   by_cases e:k=b
   ·subst e
    rw [if_pos rfl] at hk;cases hk
    exact⟨by simp,fun _=>rfl,fun c o n hc=>by rw [β',if_pos rfl] at hc;cases hc⟩
   ·rw [if_neg e] at hk
    by_cases e2:k=S.nx
    ·subst e2
     rw [if_pos rfl] at hk;cases hk
     obtain⟨r1,r2,r3⟩:=hM.blk b _ hG
     have hβ:M'.β S.nx=M.β b:=by rw [β',if_neg e,if_pos rfl]
     refine⟨r1,fun hn=>r2 (by rw [←hβ];exact hn),fun c o n hc=>?_⟩
     rw [hβ] at hc
     obtain⟨cs,ty,q1,q2,q3,q4,q5⟩:=r3 c o n hc
     refine⟨cs,ty,q1,q2,q3,q4,fun i row j x hi hj=>?_⟩
     obtain⟨v,v1,v2,v3⟩:=q5 i row j x hi hj
     exact⟨v,v1,v2,v3.step st⟩
    ·rw [if_neg e2] at hk
     exact BRel.step st (by rw [β',if_neg e,if_neg e2]) (fun c o n _=>rfl) (hM.blk k blk hk)
  ·rw [G'] at h1 h2
   rw [β'] at c1 c2
   by_cases e:k=b
   ·rw [if_pos e] at c1;cases c1
   by_cases e':k'=b
   ·rw [if_pos e'] at c2;cases c2
   rw [if_neg e] at h1 c1
   rw [if_neg e'] at h2 c2
   by_cases f:k=S.nx
   ·by_cases f':k'=S.nx
    ·rw [f,f']
    ·rw [if_pos f] at c1
     rw [if_neg f'] at h2 c2
     exact absurd (hM.inj _ _ _ _ c o n o' n' hG h2 c1 c2) (fun q=>e' q.symm)
   ·rw [if_neg f] at h1 c1
    by_cases f':k'=S.nx
    ·rw [if_pos f'] at c2
     exact absurd (hM.inj _ _ _ _ c o n o' n' h1 hG c1 c2) e
    ·rw [if_neg f'] at h2 c2
     exact hM.inj _ _ _ _ c o n o' n' h1 h2 c1 c2
  ·rw [G'] at h1
   rw [β'] at c1
   by_cases e:k=b
   ·rw [if_pos e] at c1;cases c1
   rw [if_neg e] at h1 c1
   by_cases f:k=S.nx
   ·rw [if_pos f] at c1
    exact hM.odis _ _ c o n hG c1
   ·rw [if_neg f] at h1 c1
    exact hM.odis _ _ c o n h1 c1
 refine⟨M',rfl,st,⟨⟨rel,fun k hk=>?_,fun k=>?_⟩,hr.size,fun i y hy=>?_,hr.defs.step st⟩⟩
 ·rcases hk with (hk | hk) | hk
  ·exact Nat.lt_succ_of_lt (hr.heap.A _ hk)
  ·rw [hk];exact Nat.lt_succ_self _
  ·rw [hk];exact Nat.lt_succ_of_lt (hr.heap.A _ hAb)
 ·rw [G']
  simp only [List.cons_append,look]
  by_cases e:k=b
  ·subst e;simp
  ·have e': ¬b=k:=fun h=>e h.symm
   simp only [if_neg e,if_neg e']
   by_cases e2:k=S.nx
   ·simp only [if_pos e2,if_pos e2.symm]
   ·have e2': ¬S.nx=k:=fun h=>e2 h.symm
    simp only [if_neg e2,if_neg e2'];exact hr.heap.G k
 ·simp only [look] at hy
  split at hy
  ·rename_i e
   subst e
   cases hy
   obtain⟨v,v1,v2⟩:=hr.slot _ _ ht
   have hok:refOk (M.β b) sz rows.length 0 len v:=by
    cases v2 with
    | ref _ _ _ _ _ hA hv h=>exact(h _ hG).2 rfl
   obtain⟨ad,cap,e1,_⟩:=id hok
   refine⟨v,v1, .ref S.nx 0 0 len v (.inl (.inr rfl)) ⟨ad,cap,e1⟩ fun blk hblk=>?_⟩
   rw [G',if_neg (fun h=>hne h.symm),if_pos rfl] at hblk
   cases hblk
   exact⟨Nat.le_refl _,fun _=>by rw [β',if_neg (fun h=>hne h.symm),if_pos rfl];exact hok⟩
  ·obtain⟨u,u1,u2⟩:=hr.slot i y hy
   exact⟨u,u1,u2.step st⟩
theorem wp_move {all:Array Oper} {y:Operand} {ty:TypeId} {pos:String} {aft:Array Edge} {dst:Option Tmp} {r:List Oper} {S:IState} {M:Mem} {a:Act} {Qx:Exit→Act→World→Prop} {z:IV}
  (hr:SRel h0 S M a) (hy:ev S.s y=some z) (hd:dstOk S dst=true) (h:SRel h0 (S.put dst z S.nx []) M (a.put dst (a.eval y))→wpList P all Qx r (a.put dst (a.eval y)) M.w):
  wpList P all Qx (⟨dst, .move y,ty,pos,aft,none⟩::r) a M.w:=by
 refine wpList_step fun K hK=>?_
 rw [if_pos (want_rel hr (show iwant all S.s ⟨dst,_,ty,pos,aft,none⟩=some true from rfl))]
 have hwp:(execOp a.eval ⟨dst, .move y,ty,pos,aft,none⟩).run P M.w= .ok (.value (a.eval y)) M.w:=by simp [execOp]
 unfold Oper.wp
 rw [hwp]
 exact hK _ _ (h (hr.step (.refl M) hd (ev_rel hr.slot hy) hr.heap))
theorem put_other {a:Act} {d t:Nat} {v:Value} (h:t≠d):(a.put (some d) v).tmps[t]? =a.tmps[t]? :=by
 simp only [Act.put]
 rw [Array.getElem?_setIfInBounds_ne (fun e=>h e.symm)]
theorem put_same {a:Act} {d:Nat} {v:Value} (h:d < a.tmps.size):(a.put (some d) v).tmps[d]? =some v:=by
 simp only [Act.put]
 rw [Array.getElem?_setIfInBounds_self_of_lt h]
theorem eval_tmp {a:Act} {t:Nat} {v:Value} (h:a.tmps[t]? =some v):a.eval (.tmp t)=v:=by
 simp [Act.eval,h]
theorem keep_S {S S':IState} {M M':Mem} {a a':Act} (hr:SRel h0 S M a) (st:MStep M M') (hr':SRel h0 S' M' a') {b:Nat} {blk:IBlk} (h:look (S.l++h0.m) b=some blk) (h':look (S'.l++h0.m) b=some blk):M'.β b=M.β b:=by
 have hG:M.H.G b=some blk:=by rw [hr.heap.G];exact h
 exact keep_β st (hr.heap.rel.dom _ _ hG) hG (by rw [hr'.heap.G];exact h')
theorem at_reslice (n:Nat) {Q:Exit→IState→Prop} {k:List It} {all:Array Oper} {r:List Oper} {dst:Option Tmp} {ty T e:TypeId} {pos:String} {aft:Array Edge} {N:Nat} {s:List (Nat × IV)} {d:List IDef} {nx:Nat} {l:List (Nat × IBlk)}
  {x y:Operand} {kj:IntKind} {b g off len h sz:Nat} {rows:List (List IV)} (ht:tel P T=some e) (hsz:tsz P e=some sz) (hx:ev s x=some (.ref b g off len)) (hy:ev s y=some (sci kj (h:Int)))
  (hb:look (l++h0.m) b=some (.arr sz g rows)) (hle:off+h≤rows.length) (hd:dOk N dst=true)
  (hk:vc P h0 Q n (.ops all r::k) ⟨N,putS dst (.ref b g off h) s,d,nx,l⟩):
  IRun P h0 (.ops all (⟨dst, .slice T x none (some y) none,ty,pos,aft,none⟩::r)::k) ⟨N,s,d,nx,l⟩ Q:=by
 intro M0 hM0 M a hs hr
 refine wpList_step fun K hK=>?_
 rw [if_pos (want_rel hr (show iwant all s ⟨dst,_,ty,pos,aft,none⟩=some true from rfl))]
 have hM:=hr.heap.rel
 have hv:=ev_rel hr.slot hx
 have hvy:=ev_rel hr.slot hy
 have hG:M.H.G b=some (.arr sz g rows):=by rw [hr.heap.G];exact hb
 have hok:refOk (M.β b) sz rows.length off len (a.eval x):=by
  generalize a.eval x=q at hv
  cases hv with
  | ref _ _ _ _ _ hA hv h=>exact(h _ hG).2 rfl
 obtain⟨ad,cap,e1,c1,c2,c3,c4⟩:=hok
 have hbd: ∀code,(Instr.sliceBound (a.eval y) cap code).run P M.w= .ok h M.w:=fun code=>
  (run_sliceBound (P:=P) (M:=M) (i:=sci kj (h:Int)) (y:=rows.length - off) (d:=0) (k:=h) (code:=code) (by simp only [sbd,sci];rw [if_pos (by omega)];simp) hvy cap (by omega) M.w).1
 have hrun:(Instr.sliceBounds true len cap none (some (a.eval y)) none).run P M.w= .ok (0,h,cap) M.w:=by
  unfold Instr.sliceBounds
  simp [hbd]
 have hrun2:=run_slice_slice (P:=P) ht hsz (a:=ad) hrun
 have hwp:(execOp a.eval ⟨dst, .slice T x none (some y) none,ty,pos,aft,none⟩).run P M.w= .ok (.value (.slice (if cap=0 then ad else ad.map (·.add (0 * sz))) (h - 0) (cap - 0))) M.w:=by
  simp only [execOp,e1,Option.map_some,Option.map_none];rw [Sem.run_bind,hrun2];rfl
 unfold Oper.wp
 rw [hwp]
 have hd':dstOk ⟨N,s,d,nx,l⟩ dst=true:=by cases dst<;>simp_all [dOk,dstOk]
 have hvr:VRel M (.ref b g off h) (.slice (if cap=0 then ad else ad.map (·.add (0 * sz))) (h - 0) (cap - 0)):=by
  refine .ref b g off h _ (hM.dom _ _ hG) ⟨_,_,rfl⟩ fun blk hblk=>?_
  rw [hG] at hblk;cases hblk
  refine⟨Nat.le_refl _,fun _=>⟨_,_,rfl,by omega,by simp only [IBlk.len];omega,by simp only [IBlk.len];omega,?_⟩⟩
  rcases c4 with c4 | ⟨c,o',n',q5,q6,q7⟩
  ·exact .inl (by omega)
  ·by_cases hcl:cap=0
   ·exact .inl (by omega)
   ·refine .inr ⟨c,o',n',q5,?_,by omega⟩
    rw [if_neg hcl,q6]
    simp only [Option.map_some,add_none,IBlk.sz]
    congr 2
    omega
 have hr':=hr.step (.refl M) hd' hvr (W:= []) (nx:=nx) hr.heap
 rw [put_eq] at hr'
 exact hK _ _ (vc_sound Q n _ _ hk M0 hM0 M _ hs hr')
end Go.Idl
