/- Facts that the proofs of this claim lean on. -/
import Derived.Test.YteebghpjgcacmaaGreatIdIo
set_option linter.unusedSimpArgs false
set_option linter.unusedVariables false
/- An end whose new blocks are numbered at will. -/
namespace Go.Idl
open Go
section
variable {P:Program} {fn:Func} {m:List (Nat × IBlk)} {c:Nat} {x:IV} {W:List (Nat × IBlk)} {N:Nat} {s:List (Nat × IV)} {nx:Nat} {l:List (Nat × IBlk)}
theorem qqT {ν:Nat→Nat} {i:Nat} (h:i < c):rsel 0 ((List.range c).map ν) i=ν i:=by
 unfold rsel
 rw [if_neg (Nat.not_lt_zero _),Nat.sub_zero,List.getD_eq_getElem?_getD,List.getElem?_map,List.getElem?_range h]
 rfl
theorem qog {b:Nat}: ∀ {r:List Nat},b ∉ r→qas.nin b r
 | [],_=>trivial
 | a::r,h=>⟨fun e=>h (by simp [e]),qog fun q=>h (by simp [q])⟩
theorem qiR: ∀ {r:List Nat},r.Nodup→qas r
 | [],_=>trivial
 | a::r,h=>⟨qog (List.nodup_cons.1 h).1,qiR (List.nodup_cons.1 h).2⟩
theorem qpX (ν:Nat→Nat) {e:Exit} (he:e= .normal∨e= .ret) (hinj: ∀i j,i < c→j < c→ν i=ν j→i=j) (hx:ires P ⟨N,s, [],nx,l⟩ (l++m) fn.results.toList=some (rnm ν x)) (hb:bel c x) (hW:qbf c W)
  (hs:qbd (Idl.look (l++m)) (rnL ν W)):EndG P fn 0 m c x W e ⟨N,s, [],nx,l⟩:=by
 have hk: ∀i,i < c→rsel 0 ((List.range c).map ν) i=ν i:=fun i hi=>qqT hi
 have hWe:rnL (rsel 0 ((List.range c).map ν)) W=rnL ν W:=by
  have h:=allLow_mem hW
  refine List.map_congr_left fun p hp=>?_
  obtain⟨h1,h2⟩:=h p hp
  show(_,_)=(_,_)
  rw [hk _ h1,qgn (K:=(· < c)) hk (qcZ h2)]
 have hxe:rnm (rsel 0 ((List.range c).map ν)) x=rnm ν x:=qeD (K:=(· < c)) hk _ (qdh x hb)
 have hend:endG P fn 0 m c x W ((List.range c).map ν) ⟨N,s, [],nx,l⟩:=by
  rw [qmf,hx,qaj,hxe,hWe]
  refine⟨fzv_refl _,?_,of_eq_true qhA⟩
  clear hWe hW
  generalize rnL ν W=V at *
  induction V with
  | nil=>trivial
  | cons p V ih=>
    refine⟨?_,ih hs.2⟩
    rw [hs.1,qaj]
    cases hp:p.2 with
    | arr sz g rows=>exact⟨rfl,rfl,qay _⟩
    | mp es=>exact qdB _
    | ob k vs=>exact⟨rfl,rfl⟩
 have hn:((List.range c).map ν).length=c∧geAll 0 ((List.range c).map ν)∧qas ((List.range c).map ν):=by
  refine⟨by simp,of_eq_true qhQ,qiR ?_⟩
  have h1:(List.range c).Nodup:=List.nodup_range
  show List.Pairwise _ _
  rw [List.pairwise_map]
  exact List.Pairwise.imp_of_mem (fun {a b} ha hb hab q=>hab (hinj a b (List.mem_range.1 ha) (List.mem_range.1 hb) q)) h1
 rcases he with rfl | rfl
 ·exact⟨rfl,Nat.zero_le _,_,hn,hend⟩
 ·exact⟨rfl,Nat.zero_le _,_,hn,hend⟩
end
end Go.Idl
/-
 Laid behind a part of a block of one's own, in place; a slice of a block beyond its own length.
-/
namespace Go.Idl
variable {P:Program} {h0:IH} {G:Nat→Option IBlk}
theorem app_in {t1 t2 ty e:TypeId} {sz by_:Nat} {zs:List Value} {i:TypeInfo} {z:Value} (hT:qeo P t1 t2 e sz by_ zs i z)
  {M:Mem} (hM:MRel M) {b g off len:Nat} {v x:Value} {rows rx:List (List IV)} {zx:IV} {Rx:List (Nat × IBlk)}
  (hb:M.H.G b=some (.arr sz g rows)) (hv:VRel M (.ref b g off len) v)
  (hx:iapp G sz zx=some (rx,Rx)) (hR: ∀p∈Rx,M.H.G p.1=some p.2) (hvx:VRel M zx x) (hin:off+len+rx.length≤rows.length) (ho:off < rows.length):
  ∃v' M',(Builtin.append_ #[t1,t2] ty #[v,x]).run P M.w= .ok v' M'.w∧qag M M'∧MRel M'∧M'.H=M.H.put b (.arr sz g (rows.take (off+len)++rx++rows.drop (off+len+rx.length)))∧
   VRel M' (.ref b g off (len+rx.length)) v':=by
 have hbr:=hM.blk b _ hb
 obtain⟨a,cap,ev,h1,h2,h3,h4⟩:=hv.ref_inv hb rfl
 simp only [IBlk.len,IBlk.sz] at h2 h3 h4
 subst ev
 obtain⟨news,hA⟩:=qbr (P:=P) hx hM hR hvx
 obtain⟨c,o',n,hβ,ea,h5⟩:=h4.resolve_left (by omega)
 subst ea
 obtain⟨cur,tyb,q1,q2,q3,q4,q5⟩:=hbr.2.2 c o' n hβ
 have hnl:=hA.nl
 have hrl:=q2
 have hrl2:rows.length≤n:=by omega
 have hbig:=q4.1
 have hp:off * sz+len * sz=(off+len) * sz:=by rw [←Nat.add_mul]
 have hk:(off+len) * sz+news.length=(off+len+rx.length) * sz:=by rw [hnl,←Nat.add_mul]
 have hk2:(off+len+rx.length) * sz≤n * sz:=Nat.mul_le_mul_right _ (by omega)
 have hst:=run_storeCells_at P c (o'+off * sz+len * sz) tyb news 0 cur M.w q1 (by omega) hA.one
 simp only [Nat.add_zero] at hst
 have hrun:=run_append_fits' (P:=P) (ty:=ty) hT (base:=some ⟨c,o'+off * sz,none⟩) (sLen:=len) (sCap:=cap) (n:=rx.length) (hA.len M.w) hA.get (by omega)
  (w':=M.w.setRow c (cur.toList.take (o'+off * sz+len * sz)++news++cur.toList.drop (o'+off * sz+len * sz+news.length)).toArray) (by simp only [qa7];exact hst)
 have hcl:cur.toList.length=cur.size:=Array.length_toList
 have hlen:(rows.take (off+len)++rx++rows.drop (off+len+rx.length)).length=rows.length:=by
  simp only [List.length_append,List.length_take,List.length_drop];omega
 obtain⟨s,r⟩:=mem_chg hM hb hβ q1 g o' n (rows.take (off+len)++rx++rows.drop (off+len+rx.length))
  (cur.toList.take (o'+off * sz+len * sz)++news++cur.toList.drop (o'+off * sz+len * sz+news.length)).toArray
  (Nat.le_refl _) (fun _=>⟨rfl,rfl,hlen⟩) (by
   intro row hrow
   rcases List.mem_append.1 hrow with h | h
   ·rcases List.mem_append.1 h with h | h
    ·exact hbr.1 row (List.mem_of_mem_take h)
    ·exact hA.wid row h
   ·exact hbr.1 row (List.mem_of_mem_drop h)) (by rw [hlen];omega) (by omega) (qbh.put q4 rfl (by omega) hA.one) (by
   intro i' row j y hi hj
   rw [List.append_assoc,List.getElem?_append,List.length_take] at hi
   split at hi
   ·rename_i hlt
    rw [List.getElem?_take,if_pos (by omega)] at hi
    have hjl:=qab hj
    rw [hbr.1 row (List.mem_of_getElem? hi)] at hjl
    obtain⟨u,u1,u2,u3⟩:=q5 i' row j y hi hj
    refine⟨u,?_,u2,u3⟩
    have hlt2:i' * sz+j < (off+len) * sz:=qb4 (by omega) hjl
    rw [List.getElem?_toArray,List.append_assoc,List.getElem?_append,List.length_take,if_pos (by omega),List.getElem?_take,if_pos (by omega),Array.getElem?_toList,←u1]
   ·rename_i hge
    have hmin:min (off+len) rows.length=off+len:=by omega
    rw [hmin] at hi hge
    rw [List.getElem?_append] at hi
    split at hi
    ·rename_i hlt
     obtain⟨u,u1,u2,u3⟩:=hA.rel _ row j y hi hj
     refine⟨u,?_,u2,u3⟩
     have hlt2:=qab u1
     have hmul:i' * sz=(off+len) * sz+(i' - (off+len)) * sz:=by rw [←Nat.add_mul];congr 1;omega
     rw [List.getElem?_toArray,List.getElem?_append,List.length_append,List.length_take,if_pos (by omega),List.getElem?_append,List.length_take,if_neg (by omega),←u1]
     congr 1
     omega
    ·rename_i hge2
     rw [List.getElem?_drop] at hi
     have e1:off+len+rx.length+(i' - (off+len) - rx.length)=i':=by omega
     rw [e1] at hi
     obtain⟨u,u1,u2,u3⟩:=q5 i' row j y hi hj
     refine⟨u,?_,u2,u3⟩
     have hmul:(off+len+rx.length) * sz≤i' * sz:=Nat.mul_le_mul_right _ (by omega)
     rw [List.getElem?_toArray,List.getElem?_append,List.length_append,List.length_take,if_neg (by omega),List.getElem?_drop,Array.getElem?_toList,←u1]
     congr 1
     omega)
 have hββ:putβ M.β b (some (c,o',n))=M.β:=by funext k;simp only [putβ];split<;>simp_all
 rw [hββ] at s r
 refine⟨_,⟨_,_,_⟩,hrun,s,r,rfl,?_⟩
 refine .ref b g off (len+rx.length) _ (.inr rfl) ⟨_,_,rfl⟩ fun blk hblk=>?_
 simp only [AH.put,if_true,Option.some.injEq] at hblk
 subst hblk
 exact⟨Nat.le_refl _,fun _=>⟨_,cap,rfl,by omega,by simp only [IBlk.len,hlen];omega,by simp only [IBlk.len,hlen];omega, .inr ⟨c,o',n,hβ,rfl,by omega⟩⟩⟩
theorem qp6 {o:Oper} {ρ:Operand→Option IV} {t1 t2:TypeId} {s x:Operand} {zx:IV} {e:TypeId} {sz by_:Nat} {zz:List Value} {b g off len:Nat} {rows rx:List (List IV)} {Rx:List (Nat × IBlk)}
  (ho:o.op= .call {callee:= .builtin .append,args:=#[s,x],argTypes:=#[t1,t2]}) (hs:ρ s=some (.ref b g off len)) (hx:ρ x=some zx) (hT:qer P t1 t2=some (e,sz,by_,zz))
  (hrx:iapp G sz zx=some (rx,Rx)) (hin:off+len+rx.length≤rows.length) (hof:off < rows.length):
  qbg P o ρ ((b, .arr sz g rows)::Rx) [] (.ref b g off (len+rx.length)) [(b, .arr sz g (rows.take (off+len)++rx++rows.drop (off+len+rx.length)))]:=by
 obtain⟨i,z,hT⟩:=qfP hT
 have:({x:= .ref b g off (len+rx.length),R:=(b, .arr sz g rows)::Rx,F:= [],W:= [(b, .arr sz g (rows.take (off+len)++rx++rows.drop (off+len+rx.length)))]}:FR).ok P o ρ:=by
  refine .does fun M a hM hR hF hr=>?_
  obtain⟨v,M',g1,g2,g3,g4,g5⟩:=app_in (P:=P) (ty:=o.type) hT hM (hR (b,_) (by simp)) (hr s (by simp [ho,Op.operands,Call.operands]) _ hs)
   hrx (fun p hp=>hR p (List.mem_cons_of_mem _ hp)) (hr x (by simp [ho,Op.operands,Call.operands]) _ hx) hin hof
  refine⟨v,M',?_,g2,g3,g4,g5⟩
  simp only [execOp,ho,resolve,invoke,builtin,Sem.run_bind,Sem.run_pure,Result.andThen_ok,List.map_toArray,List.map_cons,List.map_nil,g1]
 exact this
theorem qmX {all:Array Oper} {dst:Option Tmp} {t1 t2 ty e:TypeId} {s x:Operand} {zx:IV} {pos:String} {aft:Array Edge} {gd:Option (Nat × Bool)} {zz:List Value} {b g off len sz by_:Nat} {rows rx:List (List IV)} {Rx:List (Nat × IBlk)}
  {r:List Oper} {S:qaa} {acc:List FP} {K:qaa→List FP→Prop}
  (hw:qar all S.s ⟨dst, .call {callee:= .builtin .append,args:=#[s,x],argTypes:=#[t1,t2]},ty,pos,aft,gd⟩=some true) (hs:ev S.s s=some (.ref b g off len)) (hx:ev S.s x=some zx) (hT:qer P t1 t2=some (e,sz,by_,zz))
  (hb:look (S.l++h0.m) b=some (.arr sz g rows)) (hrx:iapp (look (S.l++h0.m)) sz zx=some (rx,Rx)) (hin:off+len+rx.length≤rows.length) (hof:off < rows.length) (hd:dOk S.n dst=true)
  (h:DRun P h0 all r ⟨S.n,putS dst (.ref b g off (len+rx.length)) S.s,S.d,S.nx,(b, .arr sz g (rows.take (off+len)++rx++rows.drop (off+len+rx.length)))::S.l⟩ (acc++ [(b::Rx.map (·.1), [b])]) K):
  DRun P h0 all (⟨dst, .call {callee:= .builtin .append,args:=#[s,x],argTypes:=#[t1,t2]},ty,pos,aft,gd⟩::r) S acc K:=by
 obtain⟨frs,S',h1,h2⟩:=h
 refine⟨{x:= .ref b g off (len+rx.length),R:=(b, .arr sz g rows)::Rx,F:= [],W:= [(b, .arr sz g (rows.take (off+len)++rx++rows.drop (off+len+rx.length)))]}::frs,S',
  .op hw (qbg.loc (qp6 rfl hs hx hT hrx hin hof)) ?_ hd (by simpa using h1),by simpa [FR.fp] using h2⟩
 refine FR.fits.G ⟨fun p hp=>?_, .inl ⟨rfl,fun p hp=>?_⟩⟩
 ·rcases List.mem_cons.1 hp with rfl | hp
  ·exact hb
  ·exact iapp_reads hrx p hp
 ·simp only [List.mem_singleton] at hp
  subst hp
  exact⟨_,List.mem_cons_self ..⟩
theorem qlH (n:Nat) {Q:Exit→qaa→Prop} {k:List It} {all:Array Oper} {r:List Oper} {dst:Option Tmp} {ty T e:TypeId} {pos:String} {aft:Array Edge} {N:Nat} {s:List (Nat × IV)} {d:List IDef} {nx:Nat} {l:List (Nat × IBlk)}
  {x y1 y2:Operand} {ki kj:IntKind} {b g off len lo h sz:Nat} {rows:List (List IV)} (ht:tel P T=some e) (hsz:tsz P e=some sz) (hx:ev s x=some (.ref b g off len)) (hy1:ev s y1=some (sci ki (lo:Int))) (hy:ev s y2=some (sci kj (h:Int)))
  (hb:look (l++h0.m) b=some (.arr sz g rows)) (hlo:lo≤h) (hlt:0 < h) (hle:off+h≤rows.length) (hd:dOk N dst=true)
  (hk:vc P h0 Q n (.ops all r::k) ⟨N,putS dst (.ref b g (off+lo) (h - lo)) s,d,nx,l⟩):
  IRun P h0 (.ops all (⟨dst, .slice T x (some y1) (some y2) none,ty,pos,aft,none⟩::r)::k) ⟨N,s,d,nx,l⟩ Q:=by
 intro M0 hM0 M a hs hr ro hro
 refine wpListW_step (hro.mem (List.mem_cons_self ..)) fun K hK=>?_
 rw [if_pos (qa0 hr (show qar all s ⟨dst,_,ty,pos,aft,none⟩=some true from rfl))]
 have hM:=hr.heap.rel
 have hv:=qaz hr.slot hx
 have hvy1:=qaz hr.slot hy1
 have hvy:=qaz hr.slot hy
 have hG:M.H.G b=some (.arr sz g rows):=by rw [hr.heap.G];exact hb
 have hok:qcP (M.β b) sz rows.length off len (a.eval x):=by
  generalize a.eval x=q at hv
  cases hv with
  | ref _ _ _ _ _ hA hv h=>exact(h _ hG).2 rfl
 obtain⟨ad,cap,e1,c1,c2,c3,c4⟩:=hok
 have hbd: ∀code,(Instr.sliceBound (a.eval y2) cap code).run P M.w= .ok h M.w:=fun code=>
  (qaI (P:=P) (M:=M) (i:=sci kj (h:Int)) (y:=rows.length - off) (d:=0) (k:=h) (code:=code) (by simp only [sbd,sci];rw [if_pos (by omega)];simp) hvy cap (by omega) M.w).1
 have hbd1: ∀code,(Instr.sliceBound (a.eval y1) h code).run P M.w= .ok lo M.w:=fun code=>
  (qaI (P:=P) (M:=M) (i:=sci ki (lo:Int)) (y:=h) (d:=0) (k:=lo) (code:=code) (by simp only [sbd,sci];rw [if_pos (by omega)];simp) hvy1 h (by omega) M.w).1
 have hrun:(Instr.sliceBounds true len cap (some (a.eval y1)) (some (a.eval y2)) none).run P M.w= .ok (lo,h,cap) M.w:=by
  unfold Instr.sliceBounds
  simp [hbd,hbd1]
 have hrun2:=qbb (P:=P) ht hsz (a:=ad) hrun
 have hwp:(execOp a.eval ⟨dst, .slice T x (some y1) (some y2) none,ty,pos,aft,none⟩).run P M.w= .ok (.value (.slice (if cap=lo then ad else ad.map (·.add (lo * sz))) (h - lo) (cap - lo))) M.w:=by
  simp only [execOp,e1,Option.map_some,Option.map_none];rw [Sem.run_bind,hrun2];rfl
 unfold Oper.wp
 rw [hwp]
 have hd':qaA ⟨N,s,d,nx,l⟩ dst=true:=by cases dst<;>simp_all [dOk,qaA]
 have hvr:VRel M (.ref b g (off+lo) (h - lo)) (.slice (if cap=lo then ad else ad.map (·.add (lo * sz))) (h - lo) (cap - lo)):=by
  refine .ref b g (off+lo) (h - lo) _ (hM.dom _ _ hG) ⟨_,_,rfl⟩ fun blk hblk=>?_
  rw [hG] at hblk;cases hblk
  refine⟨Nat.le_refl _,fun _=>⟨_,_,rfl,by omega,by simp only [IBlk.len];omega,by simp only [IBlk.len];omega,?_⟩⟩
  rcases c4 with c4 | ⟨c,o',n',q5,q6,q7⟩
  ·exact .inl (by omega)
  ·by_cases hcl:cap=lo
   ·exact .inl (by omega)
   ·refine .inr ⟨c,o',n',q5,?_,by omega⟩
    rw [if_neg hcl,q6]
    simp only [Option.map_some,qa7,IBlk.sz,Nat.add_mul,Nat.add_assoc]
 have hr':=hr.step (.refl M) hd' hvr (W:= []) (nx:=nx) hr.heap
 rw [qaG] at hr'
 exact hK _ _ (vc_sound Q n _ _ hk M0 hM0 M _ hs hr' ro hro.tl)
theorem qnQ (n:Nat) {Q:Exit→qaa→Prop} {k:List It} {all:Array Oper} {r:List Oper} {dst:Option Tmp} {ty T e:TypeId} {pos:String} {aft:Array Edge} {N:Nat} {s:List (Nat × IV)} {d:List IDef} {nx:Nat} {l:List (Nat × IBlk)}
  {x y1 y2 y3:Operand} {ki kj km:IntKind} {b g off len lo h mx sz:Nat} {rows:List (List IV)} (ht:tel P T=some e) (hsz:tsz P e=some sz) (hx:ev s x=some (.ref b g off len)) (hy1:ev s y1=some (sci ki (lo:Int))) (hy:ev s y2=some (sci kj (h:Int))) (hy3:ev s y3=some (sci km (mx:Int)))
  (hb:look (l++h0.m) b=some (.arr sz g rows)) (hlo:lo≤h) (hlt:0 < h) (hhm:h≤mx) (hle:off+mx=rows.length) (hd:dOk N dst=true)
  (hk:vc P h0 Q n (.ops all r::k) ⟨N,putS dst (.ref b g (off+lo) (h - lo)) s,d,nx,l⟩):
  IRun P h0 (.ops all (⟨dst, .slice T x (some y1) (some y2) (some y3),ty,pos,aft,none⟩::r)::k) ⟨N,s,d,nx,l⟩ Q:=by
 intro M0 hM0 M a hs hr ro hro
 refine wpListW_step (hro.mem (List.mem_cons_self ..)) fun K hK=>?_
 rw [if_pos (qa0 hr (show qar all s ⟨dst,_,ty,pos,aft,none⟩=some true from rfl))]
 have hM:=hr.heap.rel
 have hv:=qaz hr.slot hx
 have hvy1:=qaz hr.slot hy1
 have hvy:=qaz hr.slot hy
 have hvy3:=qaz hr.slot hy3
 have hG:M.H.G b=some (.arr sz g rows):=by rw [hr.heap.G];exact hb
 have hok:qcP (M.β b) sz rows.length off len (a.eval x):=by
  generalize a.eval x=q at hv
  cases hv with
  | ref _ _ _ _ _ hA hv h=>exact(h _ hG).2 rfl
 obtain⟨ad,cap,e1,c1,c2,c3,c4⟩:=hok
 have hbd3: ∀code,(Instr.sliceBound (a.eval y3) cap code).run P M.w= .ok mx M.w:=fun code=>
  (qaI (P:=P) (M:=M) (i:=sci km (mx:Int)) (y:=rows.length - off) (d:=0) (k:=mx) (code:=code) (by simp only [sbd,sci];rw [if_pos (by omega)];simp) hvy3 cap (by omega) M.w).1
 have hbd: ∀code,(Instr.sliceBound (a.eval y2) mx code).run P M.w= .ok h M.w:=fun code=>
  (qaI (P:=P) (M:=M) (i:=sci kj (h:Int)) (y:=mx) (d:=0) (k:=h) (code:=code) (by simp only [sbd,sci];rw [if_pos (by omega)];simp) hvy mx (by omega) M.w).1
 have hbd1: ∀code,(Instr.sliceBound (a.eval y1) h code).run P M.w= .ok lo M.w:=fun code=>
  (qaI (P:=P) (M:=M) (i:=sci ki (lo:Int)) (y:=h) (d:=0) (k:=lo) (code:=code) (by simp only [sbd,sci];rw [if_pos (by omega)];simp) hvy1 h (by omega) M.w).1
 have hrun:(Instr.sliceBounds true len cap (some (a.eval y1)) (some (a.eval y2)) (some (a.eval y3))).run P M.w= .ok (lo,h,mx) M.w:=by
  unfold Instr.sliceBounds
  simp [hbd,hbd1,hbd3]
 have hrun2:=qbb (P:=P) ht hsz (a:=ad) hrun
 have hwp:(execOp a.eval ⟨dst, .slice T x (some y1) (some y2) (some y3),ty,pos,aft,none⟩).run P M.w= .ok (.value (.slice (if mx=lo then ad else ad.map (·.add (lo * sz))) (h - lo) (mx - lo))) M.w:=by
  simp only [execOp,e1,Option.map_some,Option.map_none];rw [Sem.run_bind,hrun2];rfl
 unfold Oper.wp
 rw [hwp]
 have hd':qaA ⟨N,s,d,nx,l⟩ dst=true:=by cases dst<;>simp_all [dOk,qaA]
 have hvr:VRel M (.ref b g (off+lo) (h - lo)) (.slice (if mx=lo then ad else ad.map (·.add (lo * sz))) (h - lo) (mx - lo)):=by
  refine .ref b g (off+lo) (h - lo) _ (hM.dom _ _ hG) ⟨_,_,rfl⟩ fun blk hblk=>?_
  rw [hG] at hblk;cases hblk
  refine⟨Nat.le_refl _,fun _=>⟨_,_,rfl,by omega,by simp only [IBlk.len];omega,by simp only [IBlk.len];omega,?_⟩⟩
  rcases c4 with c4 | ⟨c,o',n',q5,q6,q7⟩
  ·exact .inl (by omega)
  ·by_cases hcl:mx=lo
   ·exact .inl (by omega)
   ·refine .inr ⟨c,o',n',q5,?_,by omega⟩
    rw [if_neg hcl,q6]
    simp only [Option.map_some,qa7,IBlk.sz,Nat.add_mul,Nat.add_assoc]
 have hr':=hr.step (.refl M) hd' hvr (W:= []) (nx:=nx) hr.heap
 rw [qaG] at hr'
 exact hK _ _ (vc_sound Q n _ _ hk M0 hM0 M _ hs hr' ro hro.tl)
end Go.Idl
