/- Facts that the proofs of this claim lean on. -/
import Derived.Test.YtfhhdgkhajkapaaGreatIdH
import Derived.Laws.Externs
set_option linter.unusedSimpArgs false
set_option linter.unusedVariables false
/-
 append, the operation.
-/
namespace Go.Idl
variable {P:Program} {o:Oper} {ρ:Operand→Option IV} {G:Nat→Option IBlk}
theorem zeroCells_one {z:Array Value} {n:Nat} (h: ∀v∈z.toList,v.oneCell'=true): ∀v∈(Builtin.zeroCells z n).toList,v.oneCell'=true:=by
 intro v hv
 simp only [Builtin.zeroCells,Array.toList_map,List.mem_map] at hv
 obtain⟨k,hk,rfl⟩:=hv
 have hk:k < n * z.size:=by simpa using hk
 have hp:0 < z.size:=by
  rcases Nat.eq_zero_or_pos z.size with h | h
  ·rw [h,Nat.mul_zero] at hk;omega
  ·exact h
 have hm:k % z.size < z.size:=Nat.mod_lt _ hp
 rw [getElem!_pos z (k % z.size) hm]
 exact h _ (by rw [Array.mem_toList_iff];exact Array.getElem_mem hm)
theorem qjl {t1 t2 e:TypeId} {sz by_ n:Nat} {zs olds news:List Value} {i:TypeInfo} {z:Value} (h1: ∀v∈olds,v.oneCell'=true) (h2: ∀v∈news,v.oneCell'=true) (hT:qeF P t1 t2 e sz by_ zs i z):
  ∀v∈((⟨olds⟩:Array Value)++⟨news⟩++Builtin.zeroCells z.cells n).toList,v.oneCell'=true:=by
 intro v hv
 simp only [Array.toList_append,List.mem_append] at hv
 rcases hv with (h | h) | h
 ·exact h1 v h
 ·exact h2 v h
 ·refine zeroCells_one (fun u hu=>?_) v h
  rw [hT.zcl] at hu
  exact List.all_eq_true.1 hT.zone u hu
def fapp (P:Program) (G:Nat→Option IBlk) (nx:Nat) (t1 t2:TypeId) (s x:IV):Option FR:=
 match qhA P t1 t2 with
 | some (_,sz,by_,_)=>match iapp G sz x with
   | some (rx,Rx)=>match s with
     | .p (.sc (.slice none 0 0)) | .p .emp=>
       if rx.length * by_≤140737488355328∧rx.length≤9223372036854775807 then some {x:= .ref nx 0 0 rx.length,R:=Rx,F:= [nx],W:= [(nx, .arr sz 0 rx)]} else none
     | .ref b g off len=>match qco G sz (.ref b g off len) with
       | some (rs,Rs)=>
         if(rs.length+rx.length) * by_≤140737488355328∧rs.length+rx.length≤9223372036854775807 then
          some {x:= .ref b (g+1) 0 (rs.length+rx.length),R:=Rs++Rx,W:= [(b, .arr sz (g+1) (rs++rx))]}
         else none
       | none=>none
     | _=>none
   | none=>none
 | none=>none
theorem qfu {M:Mem} {sz:Nat} {rs rx:List (List IV)} {a:Array Value} {o':Nat}
  (h1: ∀(i:Nat) (row:List IV) (j:Nat) (x:IV),rs[i]? =some row→row[j]? =some x→ ∃v,a[o'+(i * sz+j)]? =some v∧v.oneCell'=true∧VRel M x v)
  (h2: ∀(i:Nat) (row:List IV) (j:Nat) (x:IV),rx[i]? =some row→row[j]? =some x→ ∃v,a[o'+(rs.length * sz+(i * sz+j))]? =some v∧v.oneCell'=true∧VRel M x v):
  ∀(i:Nat) (row:List IV) (j:Nat) (x:IV),(rs++rx)[i]? =some row→row[j]? =some x→ ∃v,a[o'+(i * sz+j)]? =some v∧v.oneCell'=true∧VRel M x v:=by
 intro i row j x hi hj
 rw [List.getElem?_append] at hi
 split at hi
 ·exact h1 i row j x hi hj
 ·rename_i hge
  obtain⟨v,v1,v2,v3⟩:=h2 _ row j x hi hj
  refine⟨v,?_,v2,v3⟩
  rw [←v1]
  congr 2
  have:i * sz=rs.length * sz+(i - rs.length) * sz:=by rw [←Nat.add_mul];congr 1;omega
  omega
theorem qnq {t1 t2 ty e:TypeId} {sz by_:Nat} {zs:List Value} {i:TypeInfo} {z:Value} (hT:qeF P t1 t2 e sz by_ zs i z)
  {M:Mem} (hM:MRel M) {nx:Nat} (hnx: ¬M.H.A nx) {a:Option Addr} {x:Value} {rx:List (List IV)} {zx:IV} {Rx:List (Nat × IBlk)} (hx:iapp G sz zx=some (rx,Rx))
  (hR: ∀p∈Rx,M.H.G p.1=some p.2) (hvx:VRel M zx x) (hby:rx.length * by_≤140737488355328) (h63:rx.length≤9223372036854775807):
  ∃v M',(Builtin.append_ #[t1,t2] ty #[.slice a 0 0,x]).run P M.w= .ok v M'.w∧qae M M'∧MRel M'∧M'.H=M.H.put nx (.arr sz 0 rx)∧VRel M' (.ref nx 0 0 rx.length) v:=by
 rcases Nat.eq_zero_or_pos rx.length with h0 | h0
 ·have e0:rx= []:=List.eq_nil_of_length_eq_zero h0
  subst e0
  obtain⟨news,hA⟩:=qbz (P:=P) hx hM hR hvx
  have hn:news= []:=List.eq_nil_of_length_eq_zero (by simpa using hA.nl)
  subst hn
  have hrun:=run_append_fits' (P:=P) (ty:=ty) hT (base:=a) (sLen:=0) (sCap:=0) (n:=0) (hA.len M.w) (by simpa using hA.get) (Nat.le_refl _) (w':=M.w) (by cases a<;>rfl)
  obtain⟨s,r⟩:=qem hM nx hnx sz 0
  refine⟨_,⟨M.w,M.H.put nx (.arr sz 0 []),putβ M.β nx none⟩,hrun,s,r,rfl, .ref nx 0 0 0 _ (.inr rfl) ⟨_,_,rfl⟩ fun blk hblk=>?_⟩
  simp only [AH.put,if_true,Option.some.injEq] at hblk
  subst hblk
  exact⟨Nat.le_refl _,fun _=>⟨a,0,rfl,by simp,by simp,by simp [IBlk.len], .inl rfl⟩⟩
 ·have s1:=qae.drew M
  have hM1:=hM.drew
  obtain⟨news,hA⟩:=qbz (P:=P) hx hM1 hR (hvx.step s1)
  obtain⟨_,hA0⟩:=qbz (P:=P) hx hM hR hvx
  have hrun:=qdx (P:=P) (ty:=ty) hT (base:=a) (sLen:=0) (sCap:=0) (n:=rx.length) (w:=M.w) (olds:= []) (hA0.len M.w)
   (by cases a<;>simp [Builtin.firstCells,loadCells,loadCellsFrom]) hA.get (by omega) (by unfold maxLen;omega) (by simpa using hby)
  simp only [Nat.zero_add] at hrun
  have hge:=grownCap_ge M.w rx.length 0 e
  have hmx:=grownCap_le_maxLen M.w rx.length 0 e (by unfold maxLen;omega)
  have hzl:z.cells.size=sz:=by rw [hT.zcl];exact hT.zl
  generalize grownCap M.w rx.length 0 e=C at *
  obtain⟨s2,r2⟩:=qda hM1 nx hnx sz 0 C rx (⟨[]⟩++⟨news⟩++Builtin.zeroCells z.cells (C - rx.length)) e
   hA.wid hge hmx (qbi.all (by
    simp only [Array.size_append,List.size_toArray,List.length_nil,Nat.zero_add,hA.nl,size_zeroCells,hzl,←Nat.add_mul]
    exact Nat.mul_le_mul_right _ (by omega)) (qjl (by simp) hA.one hT)) (by
    intro i' row j y hi hj
    obtain⟨u,u1,u2,u3⟩:=hA.rel i' row j y hi hj
    refine⟨u,?_,u2,u3⟩
    have hlt:=qab u1
    rw [Array.getElem?_append]
    simp only [Array.size_append,List.size_toArray,List.length_nil,Nat.zero_add,hlt,if_true]
    rw [Array.getElem?_append]
    simpa using u1)
  refine⟨_,⟨_,_,_⟩,hrun,s1.trans s2,r2,rfl, .ref nx 0 0 rx.length _ (.inr rfl) ⟨_,_,rfl⟩ fun blk hblk=>?_⟩
  simp only [AH.put,if_true,Option.some.injEq] at hblk
  subst hblk
  exact⟨Nat.le_refl _,fun _=>⟨_,_,rfl,hge,by simp [IBlk.len],by simp [IBlk.len];exact hge, .inr ⟨M.w.heap.size,0,C,by simp [putβ],by simp,by omega⟩⟩⟩
theorem qro {t1 t2 ty e:TypeId} {sz by_:Nat} {zs:List Value} {i:TypeInfo} {z:Value} (hT:qeF P t1 t2 e sz by_ zs i z)
  {M:Mem} (hM:MRel M) {b g off len:Nat} {v x:Value} {rs rx:List (List IV)} {zx:IV} {Rs Rx:List (Nat × IBlk)}
  (hs:qco G sz (.ref b g off len)=some (rs,Rs)) (hRs: ∀p∈Rs,M.H.G p.1=some p.2) (hv:VRel M (.ref b g off len) v)
  (hx:iapp G sz zx=some (rx,Rx)) (hR: ∀p∈Rx,M.H.G p.1=some p.2) (hvx:VRel M zx x)
  (hby:(rs.length+rx.length) * by_≤140737488355328) (h63:rs.length+rx.length≤9223372036854775807):
  ∃v' M',(Builtin.append_ #[t1,t2] ty #[v,x]).run P M.w= .ok v' M'.w∧qae M M'∧MRel M'∧M'.H=M.H.put b (.arr sz (g+1) (rs++rx))∧
   VRel M' (.ref b (g+1) 0 (rs.length+rx.length)) v':=by
 obtain⟨rows,hG,hrs,hRs'⟩: ∃rows,G b=some (.arr sz g rows)∧rs=(rows.drop off).take len∧Rs= [(b, .arr sz g rows)]:=by
  unfold qco at hs
  simp only at hs
  split at hs
  ·rename_i s g' rows hb
   split at hs
   ·rename_i hg
    obtain⟨rfl,rfl⟩:=hg
    simp only [Option.some.injEq,Prod.mk.injEq] at hs
    exact⟨rows,hb,hs.1.symm,hs.2.symm⟩
   ·cases hs
  ·cases hs
 have hb:M.H.G b=some (.arr sz g rows):=hRs (b,_) (by simp [hRs'])
 have hbr:=hM.blk b _ hb
 obtain⟨a,cap,ev,h1,h2,h3,h4⟩:=hv.ref_inv hb rfl
 simp only [IBlk.len,IBlk.sz] at h2 h3 h4
 have hlen:rs.length=len:=by rw [hrs,List.length_take,List.length_drop];omega
 have hzl:z.cells.size=sz:=by rw [hT.zcl];exact hT.zl
 have wids: ∀row∈rs,row.length=sz:=fun row hrow=>hbr.1 row (by rw [hrs] at hrow;exact List.mem_of_mem_drop (List.mem_of_mem_take hrow))
 subst ev
 by_cases hfit:len+rx.length≤cap
 ·-- there is room
  obtain⟨news,hA⟩:=qbz (P:=P) hx hM hR hvx
  have wid: ∀row∈rs++rx,row.length=sz:=by
   intro row hrow
   rcases List.mem_append.1 hrow with h | h
   ·exact wids row h
   ·exact hA.wid row h
  rcases h4 with h4 | ⟨c,o',n,hβ,ea,h5⟩
  ·-- no capacity at all
   subst h4
   have e1:len=0:=by omega
   have e2:rx= []:=List.eq_nil_of_length_eq_zero (by omega)
   have e3:rs= []:=List.eq_nil_of_length_eq_zero (by omega)
   subst e2
   have hn:news= []:=List.eq_nil_of_length_eq_zero (by simpa using hA.nl)
   subst hn
   have hrun:=run_append_fits' (P:=P) (ty:=ty) hT (base:=a) (sLen:=len) (sCap:=0) (n:=0) (hA.len M.w) (by simpa using hA.get) (by omega) (w':=M.w) (by cases a<;>rfl)
   obtain⟨s,r⟩:=qqM hM hb (g+1) (by omega)
   refine⟨_,⟨M.w,M.H.put b (.arr sz (g+1) []),putβ M.β b none⟩,hrun,s,r,by rw [e3];rfl,?_⟩
   rw [e3]
   refine .ref b (g+1) 0 0 _ (.inr rfl) ⟨_,_,by rw [e1]⟩ fun blk hblk=>?_
   simp only [AH.put,if_true,Option.some.injEq] at hblk
   subst hblk
   exact⟨Nat.le_refl _,fun _=>⟨a,0,by rw [e1],by simp,by simp,by simp [IBlk.len], .inl rfl⟩⟩
  ·subst ea
   obtain⟨cur,tyb,q1,q2,q3,q4,q5⟩:=hbr.2.2 c o' n hβ
   have hnl:=hA.nl
   have hwin2:off * sz+(n - off) * sz=n * sz:=by rw [←Nat.add_mul];congr 1;omega
   have hwin:o'+off * sz+(n - off) * sz≤cur.size:=by
    have:=q4.1
    omega
   have hk:(off * sz+len * sz)+news.length≤n * sz:=by
    rw [hnl,←Nat.add_mul,←Nat.add_mul]
    exact Nat.mul_le_mul_right _ (by omega)
   have hst:=run_storeCells_at P c (o'+off * sz+len * sz) tyb news 0 cur M.w q1 (by omega) hA.one
   simp only [Nat.add_zero] at hst
   have hrun:=run_append_fits' (P:=P) (ty:=ty) hT (base:=some ⟨c,o'+off * sz,none⟩) (sLen:=len) (sCap:=cap) (n:=rx.length) (hA.len M.w) hA.get hfit
    (w':=M.w.setRow c (cur.toList.take (o'+off * sz+len * sz)++news++cur.toList.drop (o'+off * sz+len * sz+news.length)).toArray) (by simp only [qbj];exact hst)
   have hcl:cur.toList.length=cur.size:=Array.length_toList
   obtain⟨s,r⟩:=mem_chg hM hb hβ q1 (g+1) (o'+off * sz) (n - off) (rs++rx)
    (cur.toList.take (o'+off * sz+len * sz)++news++cur.toList.drop (o'+off * sz+len * sz+news.length)).toArray
    (by omega) (fun e=>absurd e (by omega)) wid (by rw [List.length_append];omega) (by omega) (qbi.put (q4.sub (by omega) (by omega)) rfl (by omega) hA.one) (by
     refine qfu ?_ ?_
     ·intro i' row j y hi hj
      have hil:=qab hi
      have hjl:=qab hj
      rw [wids row (List.mem_of_getElem? hi)] at hjl
      rw [hrs,List.getElem?_take,if_pos (by omega),List.getElem?_drop] at hi
      obtain⟨u,u1,u2,u3⟩:=q5 _ row j y hi hj
      refine⟨u,?_,u2,u3⟩
      have hlt:i' * sz+j < len * sz:=qb6 (by omega) hjl
      rw [List.getElem?_toArray,List.append_assoc,List.getElem?_append,List.length_take,if_pos (by omega),List.getElem?_take,if_pos (by omega),Array.getElem?_toList,←u1]
      congr 1
      rw [Nat.add_mul];omega
     ·intro i' row j y hi hj
      obtain⟨u,u1,u2,u3⟩:=hA.rel i' row j y hi hj
      refine⟨u,?_,u2,u3⟩
      have hlt:=qab u1
      rw [hlen,List.getElem?_toArray,List.getElem?_append,List.length_append,List.length_take,if_pos (by omega),List.getElem?_append,List.length_take,if_neg (by omega),←u1]
      congr 1
      omega)
   refine⟨_,⟨_,_,_⟩,hrun,s,r,rfl,?_⟩
   rw [hlen]
   refine .ref b (g+1) 0 (len+rx.length) _ (.inr rfl) ⟨_,_,rfl⟩ fun blk hblk=>?_
   simp only [AH.put,if_true,Option.some.injEq] at hblk
   subst hblk
   exact⟨Nat.le_refl _,fun _=>⟨_,cap,rfl,hfit,by simp [IBlk.len];omega,by simp [IBlk.len];omega, .inr ⟨c,o'+off * sz,n - off,by simp [putβ],by simp,by omega⟩⟩⟩
 ·-- it moves
  have s1:=qae.drew M
  have hM1:=hM.drew
  obtain⟨news,hA⟩:=qbz (P:=P) hx hM1 hR (hvx.step s1)
  obtain⟨_,hA0⟩:=qbz (P:=P) hx hM hR hvx
  obtain⟨a',cap',f,hB⟩:=qek (P:=P) hs hM1 hRs (hv.step s1)
  have hB:=hB.arg
  generalize (List.range (rs.length * sz)).map f=olds at hB
  have wid: ∀row∈rs++rx,row.length=sz:=by
   intro row hrow
   rcases List.mem_append.1 hrow with h | h
   ·exact wids row h
   ·exact hA.wid row h
  have hold:=hB.get
  rw [hlen] at hold hby h63
  have hrun:=qdx (P:=P) (ty:=ty) hT (base:=a) (sLen:=len) (sCap:=cap) (n:=rx.length) (w:=M.w) (olds:=olds) (hA0.len M.w)
   hold hA.get (by omega) (by unfold maxLen;omega) hby
  have hge:=grownCap_ge M.w (len+rx.length) cap e
  have hmx:=grownCap_le_maxLen M.w (len+rx.length) cap e (by unfold maxLen;omega)
  generalize grownCap M.w (len+rx.length) cap e=C at *
  have hol:=hB.nl
  have hnl:=hA.nl
  rw [hlen] at hol
  obtain⟨s2,r2⟩:=qpJ hM1 hb (g+1) C (rs++rx) (⟨olds⟩++⟨news⟩++Builtin.zeroCells z.cells (C - (len+rx.length))) e
   (by omega) wid (by rw [List.length_append];omega) hmx (qbi.all (by
    simp only [Array.size_append,List.size_toArray,hol,hnl,size_zeroCells,hzl,←Nat.add_mul]
    exact Nat.mul_le_mul_right _ (by omega)) (qjl hB.one hA.one hT)) (by
    have key:=qfu (M:= {M with w:=M.w.drew}) (rs:=rs) (rx:=rx) (sz:=sz) (o':=0) (a:=⟨olds⟩++⟨news⟩++Builtin.zeroCells z.cells (C - (len+rx.length)))
     (by
      intro i' row j y hi hj
      obtain⟨u,u1,u2,u3⟩:=hB.rel i' row j y hi hj
      refine⟨u,?_,u2,u3⟩
      have hlt:=qab u1
      rw [Nat.zero_add,Array.getElem?_append,if_pos (by simp only [Array.size_append,List.size_toArray];omega),Array.getElem?_append,if_pos (by simpa using hlt)]
      simpa using u1)
     (by
      intro i' row j y hi hj
      obtain⟨u,u1,u2,u3⟩:=hA.rel i' row j y hi hj
      refine⟨u,?_,u2,u3⟩
      have hlt:=qab u1
      rw [Nat.zero_add,hlen,Array.getElem?_append,if_pos (by simp only [Array.size_append,List.size_toArray];omega),Array.getElem?_append,if_neg (by simp only [List.size_toArray];omega)]
      simp only [List.size_toArray,List.getElem?_toArray]
      rw [←u1];congr 1;omega)
    intro i' row j y hi hj
    have:=key i' row j y hi hj
    simpa using this)
  refine⟨_,⟨_,_,_⟩,hrun,s1.trans s2,r2,rfl,?_⟩
  rw [hlen]
  refine .ref b (g+1) 0 (len+rx.length) _ (.inr rfl) ⟨_,_,rfl⟩ fun blk hblk=>?_
  simp only [AH.put,if_true,Option.some.injEq] at hblk
  subst hblk
  exact⟨Nat.le_refl _,fun _=>⟨_,_,rfl,hge,by simp [IBlk.len];omega,by simp [IBlk.len];omega, .inr ⟨M.w.heap.size,0,C,by simp [putβ],by simp,by omega⟩⟩⟩
theorem f_app {t1 t2:TypeId} {s x:Operand} {zs zx:IV} {nx:Nat} {fr:FR} (ho:o.op= .call {callee:= .builtin .append,args:=#[s,x],argTypes:=#[t1,t2]})
  (hs:ρ s=some zs) (hx:ρ x=some zx) (h:fapp P G nx t1 t2 zs zx=some fr):fr.ok P o ρ:=by
 unfold fapp at h
 have fin: ∀(M:Mem) (a:Act) v M',(Builtin.append_ #[t1,t2] o.type #[a.eval s,a.eval x]).run P M.w= .ok v (M':Mem).w→(execOp a.eval o).run P M.w= .ok (.value v) M'.w:=by
  intro M a v M' hrun
  simp only [execOp,ho,resolve,invoke,builtin,Sem.run_bind,Sem.run_pure,Result.andThen_ok,List.map_toArray,List.map_cons,List.map_nil,hrun]
 split at h
 ·rename_i e sz by_ zz hT
  obtain⟨i,z,hT⟩:=qi9 hT
  split at h
  ·rename_i rx Rx hrx
   split at h
   ·split at h
    ·rename_i hc
     simp only [Option.some.injEq] at h;subst h
     refine .does fun M a hM hR hF hr=>?_
     have e1:=(hr s (by simp [ho,Op.operands,Call.operands]) _ hs).sc_inv
     obtain⟨v,M',g1,g2,g3,g4,g5⟩:=qnq (P:=P) (ty:=o.type) hT hM (hF nx (by simp)) (a:=none) hrx hR (hr x (by simp [ho,Op.operands,Call.operands]) _ hx) hc.1 hc.2
     exact⟨v,M',fin M a v M' (by rw [e1];exact g1),g2,g3,g4,g5⟩
    ·cases h
   ·split at h
    ·rename_i hc
     simp only [Option.some.injEq] at h;subst h
     refine .does fun M a hM hR hF hr=>?_
     have hv:=hr s (by simp [ho,Op.operands,Call.operands]) _ hs
     generalize hq:a.eval s=q at hv
     cases hv with
     | p y v h=>
       cases h with
       | emp a0=>
         obtain⟨v,M',g1,g2,g3,g4,g5⟩:=qnq (P:=P) (ty:=o.type) hT hM (hF nx (by simp)) (a:=a0) hrx hR (hr x (by simp [ho,Op.operands,Call.operands]) _ hx) hc.1 hc.2
         exact⟨v,M',fin M a v M' (by rw [hq];exact g1),g2,g3,g4,g5⟩
    ·cases h
   ·rename_i b g off len
    split at h
    ·rename_i rs Rs hrs
     split at h
     ·rename_i hc
      simp only [Option.some.injEq] at h;subst h
      refine .does fun M a hM hR hF hr=>?_
      obtain⟨v,M',g1,g2,g3,g4,g5⟩:=qro (P:=P) (ty:=o.type) hT hM hrs (fun p hp=>hR p (List.mem_append.2 (.inl hp))) (hr s (by simp [ho,Op.operands,Call.operands]) _ hs)
       hrx (fun p hp=>hR p (List.mem_append.2 (.inr hp))) (hr x (by simp [ho,Op.operands,Call.operands]) _ hx) hc.1 hc.2
      exact⟨v,M',fin M a v M' g1,g2,g3,g4,g5⟩
     ·cases h
    ·cases h
   ·cases h
  ·cases h
 ·cases h
end Go.Idl
/-
 copy; structs, arrays and slices that are written out.
-/
namespace Go.Idl
variable {P:Program} {o:Oper} {ρ:Operand→Option IV} {G:Nat→Option IBlk}
/-! ### copy -/
def qgb (P:Program) (G:Nat→Option IBlk) (t1:TypeId) (d x:IV):Option FR:=
 match(tel P t1).bind (tsz P ·) with
 | some sz=>match d with
   | .ref b g off len=>match G b,iapp G sz x with
     | some (.arr s g' rows),some (rx,Rx)=>
       if g=g'∧s=sz then
        some {x:=sci .i64 (Nat.min rx.length len),R:=(b, .arr s g' rows)::Rx,
              W:= [(b, .arr s g (rows.take off++rx.take (Nat.min rx.length len)++rows.drop (off+Nat.min rx.length len)))]}
       else none
     | _,_=>none
   | _=>none
 | none=>none
theorem qjG {t1 e ty:TypeId} {sz:Nat} (he:tel P t1=some e) (hs:tsz P e=some sz) {ts:Array TypeId} (ht:ts[0]? =some t1) {base:Option Addr} {dLen dCap n:Nat} {x:Value} {news:List Value} {w w':World}
  (hl:(Builtin.lenOf x).run P w= .ok n w) (hg:(Builtin.firstCells sz (Nat.min n dLen) x).run P w= .ok ⟨news⟩ w)
  (hst:match base with | some a=>(storeCells a news).run P w= .ok () w' | none=>w'=w):
  (Builtin.copy_ ts ty #[.slice base dLen dCap,x]).run P w= .ok (goInt (Nat.min n dLen)) w':=by
 unfold Builtin.copy_
 simp only [ht,List.getElem?_toArray,List.getElem?_cons_zero,List.getElem?_cons_succ,Sem.run_bind,run_underlying (und_tel he),Result.andThen_ok,hl,qaC hs,hg]
 cases base with
 | none=>simp only at hst;subst hst;rfl
 | some a=>simp only at hst;simp only [Sem.run_bind,hst,Result.andThen_ok,Sem.run_pure]
theorem f_copy {ts:Array TypeId} {t1:TypeId} {d x:Operand} {zd zx:IV} {fr:FR} (ho:o.op= .call {callee:= .builtin .copy,args:=#[d,x],argTypes:=ts}) (ht:ts[0]? =some t1)
  (hd:ρ d=some zd) (hx:ρ x=some zx) (h:qgb P G t1 zd zx=some fr):fr.ok P o ρ:=by
 unfold qgb at h
 split at h
 ·rename_i sz hsz
  obtain⟨e,he,hs⟩:=qdL hsz
  split at h
  ·rename_i b g off len
   split at h
   ·rename_i s g' rows rx Rx hG hrx
    split at h
    ·rename_i hg
     obtain⟨rfl,rfl⟩:=hg
     simp only [Option.some.injEq] at h;subst h
     refine .does fun M a hM hR _ hr=>?_
     have hb:M.H.G b=some (.arr s g rows):=hR (b,_) (by simp)
     have hbr:=hM.blk b _ hb
     obtain⟨a0,cap,ev,h1,h2,h3,h4⟩:=(hr d (by simp [ho,Op.operands,Call.operands]) _ hd).ref_inv hb rfl
     simp only [IBlk.len,IBlk.sz] at h2 h3 h4
     obtain⟨news,hA⟩:=qbz (P:=P) hrx hM (fun p hp=>hR p (List.mem_cons_of_mem _ hp)) (hr x (by simp [ho,Op.operands,Call.operands]) _ hx)
     have hmin:Nat.min rx.length len≤rx.length:=Nat.min_le_left _ _
     have hmin2:Nat.min rx.length len≤len:=Nat.min_le_right _ _
     generalize hm:Nat.min rx.length len=m at *
     have hnl:=hA.nl
     have hmul:m * s≤rx.length * s:=Nat.mul_le_mul_right _ hmin
     have fin: ∀w',(Builtin.copy_ ts o.type #[a.eval d,a.eval x]).run P M.w= .ok (goInt m) w'→(execOp a.eval o).run P M.w= .ok (.value (.int .i64 m)) w':=by
      intro w' hrun
      simp only [execOp,ho,resolve,invoke,builtin,Sem.run_bind,Sem.run_pure,Result.andThen_ok,List.map_toArray,List.map_cons,List.map_nil,hrun,goInt]
     have widr: ∀row∈rows.take off++rx.take m++rows.drop (off+m),row.length=s:=by
      intro row hrow
      simp only [List.mem_append] at hrow
      rcases hrow with (h | h) | h
      ·exact hbr.1 row (List.mem_of_mem_take h)
      ·exact hA.wid row (List.mem_of_mem_take h)
      ·exact hbr.1 row (List.mem_of_mem_drop h)
     have hlen:(rows.take off++rx.take m++rows.drop (off+m)).length=rows.length:=by
      simp only [List.length_append,List.length_take,List.length_drop];omega
     rcases h4 with h4 | ⟨c,o',n,hβ,ea,h5⟩
     ·-- nothing is copied
      have hm0:m=0:=by omega
      subst hm0
      have hsame:rows.take off++rx.take 0++rows.drop (off+0)=rows:=by simp
      rw [hsame]
      have hpre:=hA.pre 0 (Nat.zero_le _)
      simp only [Nat.zero_mul,List.take_zero] at hpre
      have hrun:=qjG (P:=P) (ty:=o.type) he hs ht (base:=a0) (dLen:=len) (dCap:=cap) (w':=M.w) (hA.len M.w) (by rw [hm];exact hpre) (by cases a0<;>rfl)
      rw [hm] at hrun
      refine⟨_,⟨M.w,M.H.put b (.arr s g rows),M.β⟩,fin M.w (by rw [ev];exact hrun),?_⟩
      have hHG:(M.H.put b (.arr s g rows)).G=M.H.G:=by funext k;simp only [AH.put];split<;>simp_all
      have hHA:(M.H.put b (.arr s g rows)).A=M.H.A:=by
       funext k
       simp only [AH.put]
       exact propext ⟨fun h=>h.elim id (fun e=>e ▸hM.dom b _ hb), .inl⟩
      have hH:M.H.put b (.arr s g rows)=M.H:=by
       have hHO:(M.H.put b (.arr s g rows)).O=M.H.O:=rfl
       show AH.mk _ _ _=_
       cases hMH:M.H with
       | mk A G' O'=>
         rw [hMH] at hHG hHA hHO
         exact AH.mk.injEq .. ▸⟨hHA,hHG,hHO⟩
      have hMM:(⟨M.w,M.H.put b (.arr s g rows),M.β⟩:Mem)=M:=by rw [hH]
      rw [hMM]
      exact⟨.refl M,hM,by rw [qcr,hH], .sc M _⟩
     ·subst ea
      obtain⟨cur,tyb,q1,q2,q3,q4,q5⟩:=hbr.2.2 c o' n hβ
      have hk:off * s+m * s≤n * s:=by
       rw [←Nat.add_mul];exact Nat.mul_le_mul_right _ (by omega)
      have htl:(news.take (m * s)).length=m * s:=by rw [List.length_take];omega
      have q40:=q4.1
      have hst:=run_storeCells_at P c (o'+off * s) tyb (news.take (m * s)) 0 cur M.w q1 (by omega) (fun u hu=>hA.one u (List.mem_of_mem_take hu))
      simp only [Nat.add_zero,htl] at hst
      have hrun:=qjG (P:=P) (ty:=o.type) he hs ht (base:=some ⟨c,o'+off * s,none⟩) (dLen:=len) (dCap:=cap)
       (w':=M.w.setRow c (cur.toList.take (o'+off * s)++news.take (m * s)++cur.toList.drop (o'+off * s+m * s)).toArray) (hA.len M.w) (by rw [hm];exact hA.pre m hmin) hst
      rw [hm] at hrun
      have hcl:cur.toList.length=cur.size:=Array.length_toList
      obtain⟨st,r⟩:=mem_chg hM hb hβ q1 g o' n (rows.take off++rx.take m++rows.drop (off+m))
       (cur.toList.take (o'+off * s)++news.take (m * s)++cur.toList.drop (o'+off * s+m * s)).toArray
       (Nat.le_refl _) (fun _=>⟨rfl,rfl,hlen⟩) widr (by rw [hlen];exact q2) q3 (qbi.put q4 (by rw [htl]) (by omega) (fun u hu=>hA.one u (List.mem_of_mem_take hu))) (by
        intro i row j y hi hj
        have hjl:=qab hj
        rw [widr row (List.mem_of_getElem? hi)] at hjl
        rw [List.getElem?_append,List.length_append,List.length_take,List.length_take,Nat.min_eq_left (show off≤rows.length by omega),Nat.min_eq_left hmin] at hi
        split at hi
        ·rw [List.getElem?_append,List.length_take,Nat.min_eq_left (show off≤rows.length by omega)] at hi
         split at hi
         ·rename_i g1 g2
          rw [List.getElem?_take,if_pos g2] at hi
          obtain⟨u,u1,u2,u3⟩:=q5 i row j y hi hj
          refine⟨u,?_,u2,u3⟩
          have hlt:=qb6 (sz:=s) g2 hjl
          rw [List.getElem?_toArray,List.append_assoc,List.getElem?_append,List.length_take,if_pos (by omega),List.getElem?_take,if_pos (by omega),Array.getElem?_toList]
          exact u1
         ·rename_i g1 g2
          rw [List.getElem?_take,if_pos (by omega)] at hi
          obtain⟨u,u1,u2,u3⟩:=hA.rel _ row j y hi hj
          refine⟨u,?_,u2,u3⟩
          have hlt:(i - off) * s+j < m * s:=qb6 (by omega) hjl
          have e:i * s=off * s+(i - off) * s:=by rw [←Nat.add_mul];congr 1;omega
          rw [List.getElem?_toArray,List.getElem?_append,List.length_append,List.length_take,htl,if_pos (by omega),List.getElem?_append,List.length_take,if_neg (by omega),
           List.getElem?_take,if_pos (by omega),←u1]
          congr 1;omega
        ·rename_i g1
         rw [List.getElem?_drop] at hi
         rw [show off+m+(i - (off+m))=i by omega] at hi
         obtain⟨u,u1,u2,u3⟩:=q5 i row j y hi hj
         refine⟨u,?_,u2,u3⟩
         have hle:(off+m) * s≤i * s:=Nat.mul_le_mul_right _ (by omega)
         rw [Nat.add_mul] at hle
         rw [List.getElem?_toArray,List.getElem?_append,List.length_append,List.length_take,htl,if_neg (by omega),List.getElem?_drop,Array.getElem?_toList,←u1]
         congr 1;omega)
      have hββ:putβ M.β b (some (c,o',n))=M.β:=by funext k;simp only [putβ];split<;>simp_all
      rw [hββ] at st r
      exact⟨_,⟨_,_,M.β⟩,fin _ (by rw [ev];exact hrun),st,r,rfl, .sc _ _⟩
    ·cases h
   ·cases h
  ·cases h
 ·cases h
/-! ### structs and arrays that are written out -/
def tpl (P:Program) (t:TypeId):Option (List (Nat × Nat)):=
 match P.underlying t with
 | some (.struct fs)=>fs.toList.mapM fun f=>(P.info? f.type).map fun i=>(f.offset,i.size)
 | _=>none
def iset (off:Nat):List IV→Nat→List IV→List IV
 | [],_,cs=>cs
 | x::r,j,cs=>iset off r (j+1) (cs.set (off+j) x)
def qb0 (place:Nat→Option (Nat × Nat)) (cs:List IV):List (Nat × IV)→Option (List IV)
 | []=>some cs
 | (i,x)::rest=>match place i,qbq x with
   | some (off,size),some xs=>if xs.length=size∧off+size≤cs.length then qb0 place (iset off xs 0 cs) rest else none
   | _,_=>none
def qev (P:Program) (t:TypeId) (parts:List (Nat × IV)):Option FR:=
 match tze P t with
 | some zs=>if zs.all (·.oneCell') then
   match tpl P t,tar P t with
   | some pl,_=>(qb0 (pl[·]?) (zcs zs) parts).map fun cs=> {x:= .agg cs}
   | none,some (_,e)=>match tsz P e with
     | some n=>(qb0 (fun i=>some (i * n,n)) (zcs zs) parts).map fun cs=> {x:= .agg cs}
     | none=>none
   | _,_=>none
   else none
 | none=>none
theorem qaQ.set {M:Mem} {cs:List IV} {vs:List Value} (h:qaQ M cs vs) (k:Nat) {x:IV} {v:Value} (h1:v.oneCell'=true) (hv:VRel M x v):qaQ M (cs.set k x) (vs.set k v):=by
 refine⟨by simp [h.len],fun u hu=>?_,fun i y u hi hu=>?_⟩
 ·rcases List.mem_or_eq_of_mem_set hu with h' | h'
  ·exact h.one u h'
  ·subst h';exact h1
 ·rw [List.getElem?_set] at hi hu
  split at hi
  ·rename_i e
   rw [if_pos e] at hu
   split at hi
   ·split at hu
    ·cases hi;cases hu;exact hv
    ·cases hu
   ·cases hi
  ·rename_i e
   rw [if_neg e] at hu
   exact h.rel i y u hi hu
def vset (off:Nat):List Value→Nat→List Value→List Value
 | [],_,cs=>cs
 | x::r,j,cs=>vset off r (j+1) (cs.set (off+j) x)
theorem ql3 {M:Mem} (off:Nat): ∀ {xs:List IV} {us:List Value} (j:Nat) {cs:List IV} {vs:List Value},qaQ M xs us→qaQ M cs vs→qaQ M (iset off xs j cs) (vset off us j vs)
 | [],us,j,cs,vs,hx,h=>by
   have:us= []:=List.eq_nil_of_length_eq_zero (by simpa using hx.len)
   subst this;exact h
 | x::xs,us,j,cs,vs,hx,h=>by
   cases us with
   | nil=>have:=hx.len;simp at this
   | cons u us=>
     have h0:=hx.rel 0 x u rfl rfl
     have h1:=hx.one u (by simp)
     exact ql3 off (j+1) ⟨by simpa using hx.len,fun v hv=>hx.one v (List.mem_cons_of_mem _ hv),fun i y v hi hv=>hx.rel (i+1) y v (by simpa using hi) (by simpa using hv)⟩ (h.set _ h1 h0)
theorem qji (off:Nat): ∀(us:List Value) (j:Nat) (a:Array Value),((us.zipIdx j).foldl (fun cs p=>cs.setIfInBounds (off+p.2) p.1) a)=⟨vset off us j a.toList⟩
 | [],j,a=>by simp [vset]
 | u::us,j,a=>by
   simp only [List.zipIdx_cons,List.foldl_cons,vset]
   rw [qji off us (j+1)]
   simp
theorem qgU {M:Mem} {place:Nat→Option (Nat × Nat)}: ∀ {ps:List (Nat × IV)} {us:List (Nat × Value)} {cs cs':List IV} {vs:List Value},qb0 place cs ps=some cs'→us.length=ps.length→
  (∀(k:Nat) p u,ps[k]? =some p→us[k]? =some u→u.1=p.1∧VRel M p.2 u.2)→qaQ M cs vs→ ∃vs':List Value,Instr.fill place ⟨vs⟩ us=some ⟨vs'⟩∧qaQ M cs' vs'
 | [],us,cs,cs',vs,h,hl,_,hc=>by
   have:us= []:=List.eq_nil_of_length_eq_zero (by simpa using hl)
   subst this
   simp only [qb0,Option.some.injEq] at h;subst h
   exact⟨vs,rfl,hc⟩
 | (i,x)::ps,us,cs,cs',vs,h,hl,hr,hc=>by
   cases us with
   | nil=>simp at hl
   | cons u us=>
     obtain⟨e1,hv⟩:=hr 0 (i,x) u rfl rfl
     unfold qb0 at h
     split at h
     ·rename_i off size xs hp hx
      split at h
      ·rename_i hcd
       obtain⟨ws,hw,hA⟩:=qgQ hx hv
       obtain⟨vs',g1,g2⟩:=qgU (us:=us) (vs:=vset off ws 0 vs) h (by simpa using hl) (fun k p v hp hv=>hr (k+1) p v (by simpa using hp) (by simpa using hv)) (ql3 off 0 hA hc)
       refine⟨vs',?_,g2⟩
       obtain⟨ui,uv⟩:=u
       simp only at e1 hw
       subst e1
       have hwl:=hA.len
       have hcl:=hc.len
       unfold Instr.fill
       simp only [hp,hw,List.size_toArray]
       rw [if_neg (by simp;omega)]
       rw [←g1]
       congr 1
       rw [show(⟨ws⟩:Array Value).zipIdx=(ws.zipIdx).toArray from by simp]
       rw [←Array.foldl_toList]
       have:=qji off ws 0 ⟨vs⟩
       simpa using this
      ·cases h
     ·cases h
def rparts (ρ:Operand→Option IV):List (Nat × Operand)→Option (List (Nat × IV))
 | []=>some []
 | (i,y)::r=>match ρ y,rparts ρ r with
   | some z,some zs=>some ((i,z)::zs)
   | _,_=>none
theorem qc0 {M:Mem} {a:Act}: ∀ {ps:List (Nat × Operand)} {zs:List (Nat × IV)},rparts ρ ps=some zs→(∀p∈ps,∀z,ρ p.2=some z→VRel M z (a.eval p.2))→
  (ps.map fun p=>(p.1,a.eval p.2)).length=zs.length∧ ∀(k:Nat) p u,zs[k]? =some p→(ps.map fun p=>(p.1,a.eval p.2))[k]? =some u→u.1=p.1∧VRel M p.2 u.2
 | [],zs,h,_=>by simp only [rparts,Option.some.injEq] at h;subst h;simp
 | (i,y)::r,zs,h,hr=>by
   unfold rparts at h
   split at h
   ·rename_i z zs' hz hzs
    simp only [Option.some.injEq] at h;subst h
    obtain⟨h1,h2⟩:=qc0 (M:=M) (a:=a) hzs fun p hp=>hr p (List.mem_cons_of_mem _ hp)
    refine⟨by simp at h1 ⊢;exact h1,fun k p u hp hu=>?_⟩
    cases k with
    | zero=>simp at hp hu;subst hp;subst hu;exact⟨rfl,hr (i,y) (by simp) z hz⟩
    | succ k=>exact h2 k p u (by simpa using hp) (by simpa using hu)
   ·cases h
theorem f_build {t:TypeId} {parts:List (Nat × Operand)} {zs:List (Nat × IV)} {fr:FR} (ho:o.op= .build t ⟨parts⟩) (hz:rparts ρ parts=some zs) (h:qev P t zs=some fr):fr.ok P o ρ:=by
 unfold qev at h
 split at h
 ·rename_i zv hzv
  split at h
  ·rename_i h1
   have hzv':=hzv
   unfold tze at hzv'
   cases hi:P.info? t with
   | none=>simp [hi] at hzv'
   | some it=>
     cases hiz:it.zero with
     | none=>simp [hi,hiz] at hzv'
     | some z=>
       simp only [hi,hiz,Option.bind_some,Option.map_some,Option.some.injEq] at hzv'
       have hzc:z.cells=⟨zv⟩:=by rw [←hzv']
       have key: ∀(place:Nat→Option (Nat × Nat)) (cs:List IV),qb0 place (zcs zv) zs=some cs→(∀ps cells,Instr.fill place ⟨zv⟩ ps=some cells→P.built t ps=some cells)→qbh P o ρ [] [] (.agg cs) []:=by
        intro place cs hf hb
        refine .read fun M a _ _ hr=>?_
        obtain⟨l1,l2⟩:=qc0 (M:=M) (a:=a) hz fun p hp=>hr p.2 (by
         simp only [ho,Op.operands];simp;exact⟨p.1,hp⟩)
        obtain⟨vs',g1,g2⟩:=qgU hf l1 l2 (qcs M h1)
        have hrun:=run_build (P:=P) M.w t ⟨parts.map fun p=>(p.1,a.eval p.2)⟩ ⟨vs'⟩ (hb _ _ g1)
        refine⟨.agg ⟨vs'⟩,?_, .agg _ _ g2.len g2.one g2.rel⟩
        simp only [execOp,ho,Sem.run_bind]
        have e:(Array.map (fun x=>(x.1,a.eval x.2)) ⟨parts⟩:Array (Nat × Value))=⟨parts.map fun p=>(p.1,a.eval p.2)⟩:=by simp
        rw [show(Array.map (fun x:Nat × Operand=>match x with | (i,x)=>(i,a.eval x)) ⟨parts⟩:Array (Nat × Value))=⟨parts.map fun p=>(p.1,a.eval p.2)⟩ from e,hrun]
        rfl
       split at h
       ·rename_i pl hpl
        cases hf:qb0 (pl[·]?) (zcs zv) zs with
        | none=>simp [hf] at h
        | some cs=>
          simp only [hf,Option.map_some,Option.some.injEq] at h;subst h
          refine key _ cs hf fun ps cells hfill=>?_
          unfold tpl at hpl
          split at hpl
          ·rename_i fs hu
           unfold Program.built
           simp only [hi,hu,hiz,hpl,hzc]
           simpa using hfill
          ·cases hpl
       ·rename_i e hpl hta
        split at h
        ·rename_i n hn
         cases hf:qb0 (fun i=>some (i * n,n)) (zcs zv) zs with
         | none=>simp [hf] at h
         | some cs=>
           simp only [hf,Option.map_some,Option.some.injEq] at h;subst h
           refine key _ cs hf fun ps cells hfill=>?_
           have hu:=und_tar hta
           unfold tsz at hn
           cases hie:P.info? e with
           | none=>simp [hie] at hn
           | some ie=>
             simp only [hie,Option.map_some,Option.some.injEq] at hn
             unfold Program.built
             simp only [hi,hu,hiz,hie,hzc,hn]
             exact hfill
        ·cases h
       ·cases h
  ·cases h
 ·cases h
end Go.Idl
/-
 Slices that are written out.
-/
namespace Go.Idl
variable {P:Program} {o:Oper} {ρ:Operand→Option IV} {G:Nat→Option IBlk}
def pvs:List IV→Option (List PV)
 | []=>some []
 | .p x::r=>(pvs r).map (x::·)
 | _=>none
theorem qie: ∀ {cs:List IV} {ps:List PV},pvs cs=some ps→cs=ps.map .p
 | [],ps,h=>by simp only [pvs,Option.some.injEq] at h;subst h;rfl
 | x::r,ps,h=>by
   unfold pvs at h
   split at h
   ·rename_i h0;cases h0
   ·rename_i y r' e
    injection e with e1 e2
    subst e1;subst e2
    cases hr:pvs r with
    | none=>simp [hr] at h
    | some ps'=>simp only [hr,Option.map_some,Option.some.injEq] at h;subst h;rw [qie hr];rfl
   ·cases h
def chunk {α:Type} (sz n:Nat) (l:List α):List (List α):=(List.range n).map fun i=>(l.drop (i * sz)).take sz
theorem qfz {α:Type} {sz n:Nat} {l:List α} {i j:Nat} {row:List α} {x:α} (hi:(chunk sz n l)[i]? =some row) (hj:row[j]? =some x):i < n∧j < sz∧l[i * sz+j]? =some x:=by
 have hlt:=qab hi
 simp only [chunk,List.length_map,List.length_range] at hlt
 simp only [chunk,List.getElem?_map,List.getElem?_range hlt,Option.map_some,Option.some.injEq] at hi
 subst hi
 rw [List.getElem?_take] at hj
 split at hj
 ·rename_i h
  rw [List.getElem?_drop] at hj
  exact⟨hlt,h,hj⟩
 ·cases hj
theorem chunk_wid {α:Type} {sz n:Nat} {l:List α} (h:l.length=n * sz): ∀row∈chunk sz n l,row.length=sz:=by
 intro row hrow
 simp only [chunk,List.mem_map,List.mem_range] at hrow
 obtain⟨i,hi,rfl⟩:=hrow
 have:(i+1) * sz≤n * sz:=Nat.mul_le_mul_right _ hi
 rw [Nat.add_mul,Nat.one_mul] at this
 rw [List.length_take,List.length_drop];omega
def flit (P:Program) (t:TypeId) (len:Nat) (parts:List (Nat × IV)):Option (Nat × List IV):=
 match tel P t with
 | some e=>match tsz P e,tze P e with
   | some sz,some zs=>if zs.all (·.oneCell')∧zs.length=sz∧len * sz≤16777216∧0 < sz then
     (qb0 (fun i=>some (i * sz,sz)) (List.replicate len (zcs zs)).flatten parts).map fun cs=>(sz,cs)
     else none
   | _,_=>none
 | none=>none
theorem qjn {place:Nat→Option (Nat × Nat)}: ∀ {ps:List (Nat × IV)} {cs cs':List IV},qb0 place cs ps=some cs'→cs'.length=cs.length
 | [],cs,cs',h=>by simp only [qb0,Option.some.injEq] at h;rw [h]
 | (i,x)::ps,cs,cs',h=>by
   unfold qb0 at h
   split at h
   ·rename_i off size xs hp hx
    split at h
    ·have:=qjn h
     rw [this]
     have hs: ∀(xs:List IV) (j:Nat) (cs:List IV),(iset off xs j cs).length=cs.length:=by
      intro xs
      induction xs with
      | nil=>intro j cs;rfl
      | cons x xs ih=>intro j cs;simp only [iset];rw [ih];simp
     exact hs xs 0 cs
    ·cases h
   ·cases h
theorem run_lit {t:TypeId} {len:Nat} {parts:List (Nat × IV)} {sz:Nat} {cs:List IV} (h:flit P t len parts=some (sz,cs)):
  cs.length=len * sz∧len≤maxLen∧ ∃e,∀(M:Mem) (us:List (Nat × Value)),us.length=parts.length→
   (∀(k:Nat) p u,parts[k]? =some p→us[k]? =some u→u.1=p.1∧VRel M p.2 u.2)→
   ∃vs:List Value,qaQ M cs vs∧(Instr.buildSlice t len ⟨us⟩).run P M.w= .ok (.slice (some ⟨M.w.heap.size,0,none⟩) len len) (M.w.alloc (.cells ⟨vs⟩ e)):=by
 unfold flit at h
 split at h
 ·rename_i e he
  split at h
  ·rename_i s zs hs hz
   split at h
   ·rename_i hcd
    obtain⟨c1,c2,c3,c4⟩:=hcd
    cases hf:qb0 (fun i=>some (i * s,s)) (List.replicate len (zcs zs)).flatten parts with
    | none=>simp [hf] at h
    | some cs'=>
      simp only [hf,Option.map_some,Option.some.injEq,Prod.mk.injEq] at h
      obtain⟨rfl,rfl⟩:=h
      have hfl:(List.replicate len (zcs zs)).flatten.length=len * s:=by simp [zcs,c2]
      refine⟨(qjn hf).trans hfl,by have:len * 1≤len * s:=Nat.mul_le_mul_left _ c4;unfold maxLen;omega,e,fun M us hl hr=>?_⟩
      obtain⟨z,hzc,hzr⟩:=qi6 hz
      have hza:=qcs M c1
      -- the zero cells of the model
      have hzero: ∀k,k < len * s→((List.replicate len zs).flatten)[k]? =zs[k % s]? :=by
       intro k hk
       obtain⟨i,j,hi,hj,rfl⟩:=qeZ hk
       have e2:(i * s+j) % s=j:=by rw [Nat.mul_comm,Nat.mul_add_mod,Nat.mod_eq_of_lt hj]
       rw [e2]
       clear hk e2 hfl hf hl hr c3
       induction len generalizing i with
       | zero=>omega
       | succ n ih=>
         rw [List.replicate_succ,List.flatten_cons,List.getElem?_append]
         cases i with
         | zero=>rw [if_pos (by omega)];simp
         | succ i=>
           rw [if_neg (by rw [c2,Nat.add_mul];omega)]
           have:=ih i (by omega)
           rw [←this,c2];congr 1;rw [Nat.add_mul];omega
      have hrep:qaQ M (List.replicate len (zcs zs)).flatten (List.replicate len zs).flatten:=by
       clear hfl hf hl hr c3 hzero
       induction len with
       | zero=>exact⟨rfl,by simp,by simp⟩
       | succ n ih=>
         rw [List.replicate_succ,List.replicate_succ,List.flatten_cons,List.flatten_cons]
         have hzl:(zcs zs).length=zs.length:=hza.len.symm
         refine⟨by simp only [List.length_append,ih.len,hzl],fun v hv=>?_,fun i x v hi hv=>?_⟩
         ·rcases List.mem_append.1 hv with h | h
          ·exact hza.one v h
          ·exact ih.one v h
         ·rw [List.getElem?_append] at hi hv
          rw [hzl] at hi
          split at hi
          ·rename_i h;rw [if_pos h] at hv;exact hza.rel i x v hi hv
          ·rename_i h;rw [if_neg h] at hv;exact ih.rel _ x v hi hv
      obtain⟨vs,g1,g2⟩:=qgU hf hl hr hrep
      refine⟨vs,g2,?_⟩
      have harr:(Array.range (len * s)).map (fun k=>(if len * s=0 then(#[]:Array Value) else⟨zs⟩)[k % (if len * s=0 then(#[]:Array Value) else⟨zs⟩).size]!)=⟨(List.replicate len zs).flatten⟩:=by
       apply Array.ext'
       apply List.ext_getElem?
       intro k
       simp only [Array.toList_map,Array.toList_range]
       by_cases hk:k < len * s
       ·have hne: ¬len * s=0:=by omega
        have hm:k % s < zs.length:=by rw [c2];exact Nat.mod_lt _ c4
        rw [hzero k hk,List.getElem?_map,List.getElem?_range hk]
        simp only [Option.map_some,hne,if_false,List.size_toArray,c2]
        rw [List.getElem?_eq_getElem hm,getElem!_pos (⟨zs⟩:Array Value) (k % s) (by simpa using hm)]
        rfl
       ·rw [List.getElem?_eq_none (by simp;omega),List.getElem?_eq_none (by simp [c2];omega)]
      unfold Instr.buildSlice
      rw [Sem.run_bind,run_underlying (und_tel he)]
      simp only [Result.andThen_ok,Sem.run_bind,qaC hs]
      rw [if_neg (by simp only [Nat.reducePow];omega)]
      by_cases h0:len * s=0
      ·simp only [h0,if_true] at harr
       simp only [h0,if_true,Sem.run_bind,Sem.run_pure,Result.andThen_ok,harr,g1,newRow,run_newObj,World.alloc_eq]
      ·simp only [h0,if_false] at harr
       simp only [h0,if_false,Sem.run_bind,Sem.run_pure,Result.andThen_ok,hzr,hzc,harr,g1,newRow,run_newObj,World.alloc_eq]
   ·cases h
  ·cases h
 ·cases h
def tlit (P:Program) (t:TypeId):Bool:=
 match tel P t with
 | some e=>match tkd P e with
   | some (.int _)=>true
   | some .string=>true
   | some .bool=>true
   | some (.float _)=>true
   | _=>false
 | none=>false
def qnA (P:Program) (t:TypeId):Bool→Nat→Bool
 | _,0=>true
 | true,_+1=>true
 | false,_+1=>match tlit P t with
   | true=>false
   | false=>true
def qcN (P:Program) (nx:Nat) (v:Bool) (t:TypeId) (len:Nat) (parts:List (Nat × IV)):Option FR:=
 match flit P t len parts with
 | some (sz,cs)=>match pvs cs,qnA P t v len with
   | some ps,true=>some {x:=if len=0 then .p .emp else .p (.imm sz (chunk sz len ps))}
   | _,_=>some {x:= .ref nx 0 0 len,F:= [nx],W:= [(nx, .arr sz 0 (chunk sz len cs))]}
 | none=>none
theorem qk8 {nx:Nat} {v:Bool} {t:TypeId} {len:Nat} {parts:List (Nat × Operand)} {zs:List (Nat × IV)} {fr:FR} (ho:o.op= .buildSlice t len ⟨parts⟩) (hz:rparts ρ parts=some zs)
  (h:qcN P nx v t len zs=some fr):fr.ok P o ρ:=by
 unfold qcN at h
 split at h
 ·rename_i sz cs hl
  split at h
  ·rename_i ps hp _
   simp only [Option.some.injEq] at h;subst h
   obtain⟨hcl,hlm,e,hrun⟩:=run_lit hl
   have hce:=qie hp
   refine .does fun M a hM _ _ hr=>?_
   obtain⟨l1,l2⟩:=qc0 (M:=M) (a:=a) hz fun p hp=>hr p.2 (by
    simp only [ho,Op.operands];simp;exact⟨p.1,hp⟩)
   obtain⟨vs,g1,g2⟩:=hrun M (parts.map fun p=>(p.1,a.eval p.2)) l1 l2
   have hvl:=g1.len
   refine⟨.slice (some ⟨M.w.heap.size,0,none⟩) len len, {M with w:=M.w.alloc (.cells ⟨vs⟩ e)},?_, .alloc hM _,hM.alloc _,rfl,?_⟩
   ·simp only [execOp,ho,Sem.run_bind]
    have e:(Array.map (fun x=>(x.1,a.eval x.2)) ⟨parts⟩:Array (Nat × Value))=⟨parts.map fun p=>(p.1,a.eval p.2)⟩:=by simp
    rw [show(Array.map (fun x:Nat × Operand=>match x with | (i,x)=>(i,a.eval x)) ⟨parts⟩:Array (Nat × Value))=⟨parts.map fun p=>(p.1,a.eval p.2)⟩ from e,g2]
    rfl
   ·have hown: ¬({M with w:=M.w.alloc (.cells ⟨vs⟩ e)}:Mem).own M.w.heap.size:=fun ho=>absurd (hM.lt (c:=M.w.heap.size) ho) (by omega)
    split
    ·rename_i h0;subst h0;exact .p _ _ (.emp _)
    ·have hps:ps.length=len * sz:=by rw [←hcl,hce];simp
     have hchl:(chunk sz len ps).length=len:=by simp [chunk]
     have key:PRel (M.w.alloc (.cells ⟨vs⟩ e)) ({M with w:=M.w.alloc (.cells ⟨vs⟩ e)}:Mem).own (.imm sz (chunk sz len ps)) (.slice (some ⟨M.w.heap.size,0,none⟩) (chunk sz len ps).length len):=by
      refine .mk_imm (c:=M.w.heap.size) (o:=0) (by omega) hlm (fun _=>⟨rfl,by simp,hown⟩) (fun i row hi=>chunk_wid hps row (List.mem_of_getElem? hi)) ?_
      intro i row j y hi hj
      obtain⟨_,_,hy⟩:=qfz hi hj
      obtain⟨u,u1,u2,u3⟩:=(g1.step (.alloc hM (.cells ⟨vs⟩ e))).get (i:=i * sz+j) (x:= .p y) (by rw [hce];simp [hy])
      refine⟨u,by simpa using u1,u2,?_⟩
      cases u3 with
      | p x v h=>exact h
     rw [hchl] at key
     exact .p _ _ key
  ·simp only [Option.some.injEq] at h;subst h
   obtain⟨hcl,hlm,e,hrun⟩:=run_lit hl
   refine .does fun M a hM _ hF hr=>?_
   obtain⟨l1,l2⟩:=qc0 (M:=M) (a:=a) hz fun p hp=>hr p.2 (by
    simp only [ho,Op.operands];simp;exact⟨p.1,hp⟩)
   obtain⟨vs,g1,g2⟩:=hrun M (parts.map fun p=>(p.1,a.eval p.2)) l1 l2
   have hvl:=g1.len
   obtain⟨s,r⟩:=qda hM nx (hF nx (by simp)) sz 0 len (chunk sz len cs) ⟨vs⟩ e (chunk_wid hcl) (by simp [chunk]) hlm (qbi.all (by simp [hvl,hcl]) (by simpa using g1.one)) (by
    intro i row j x hi hj
    obtain⟨_,_,hy⟩:=qfz hi hj
    obtain⟨u,u1,u2,u3⟩:=g1.get hy
    exact⟨u,by simpa using u1,u2,u3⟩)
   refine⟨.slice (some ⟨M.w.heap.size,0,none⟩) len len,_,?_,s,r,rfl,?_⟩
   ·simp only [execOp,ho,Sem.run_bind]
    have e:(Array.map (fun x=>(x.1,a.eval x.2)) ⟨parts⟩:Array (Nat × Value))=⟨parts.map fun p=>(p.1,a.eval p.2)⟩:=by simp
    rw [show(Array.map (fun x:Nat × Operand=>match x with | (i,x)=>(i,a.eval x)) ⟨parts⟩:Array (Nat × Value))=⟨parts.map fun p=>(p.1,a.eval p.2)⟩ from e,g2]
    rfl
   ·refine .ref nx 0 0 len _ (.inr rfl) ⟨_,_,rfl⟩ fun blk hblk=>?_
    simp only [AH.put,if_true,Option.some.injEq] at hblk
    subst hblk
    refine⟨Nat.le_refl _,fun _=>⟨_,_,rfl,by omega,by simp [IBlk.len,chunk],by simp [IBlk.len,chunk], .inr ⟨M.w.heap.size,0,len,by simp [putβ],by simp,by omega⟩⟩⟩
 ·cases h
end Go.Idl
/-
 The state of the ideal machine, and what it is to run code from a state.
-/
namespace Go.Idl
def look {α:Type}:List (Nat × α)→Nat→Option α
 | [],_=>none
 | (k,x)::r,i=>if k=i then some x else look r i
theorem qad {α:Type} (l m:List (Nat × α)) (i:Nat):look (l++m) i=match look l i with | some x=>some x | none=>look m i:=by
 induction l with
 | nil=>rfl
 | cons p l ih=>
   obtain⟨k,x⟩:=p
   simp only [List.cons_append,look]
   split
   ·rfl
   ·exact ih
theorem qaD {α:Type} {l:List (Nat × α)} {i:Nat} {x:α} (h:look l i=some x):(i,x)∈l:=by
 induction l with
 | nil=>cases h
 | cons p l ih=>
   obtain⟨k,y⟩:=p
   simp only [look] at h
   split at h
   ·rename_i e;subst e;cases h;exact List.mem_cons_self
   ·exact List.mem_cons_of_mem _ (ih h)
theorem look_none {α:Type} {l:List (Nat × α)} {i:Nat} (h:look l i=none): ∀p∈l,p.1≠i:=by
 induction l with
 | nil=>simp
 | cons p l ih=>
   obtain⟨k,y⟩:=p
   simp only [look] at h
   split at h
   ·cases h
   ·rename_i e
    intro q hq
    rcases List.mem_cons.1 hq with rfl | hq
    ·exact e
    ·exact ih h q hq
structure IH where
 nx:Nat
 m:List (Nat × IBlk)
structure IDef where
 fn:Fn
 cap:List IV
 args:List IV
structure qaa where
 n:Nat
 s:List (Nat × IV)
 d:List IDef
 nx:Nat
 l:List (Nat × IBlk)
def cst:Value→Option IV
 | .agg cs=>if cs.all (·.oneCell') then some (.agg (cs.toList.map fun v=> .p (.sc v))) else none
 | .tuple _=>none
 | v=>some (.p (.sc v))
def ev (s:List (Nat × IV)):Operand→Option IV
 | .tmp t=>look s t
 | .const v=>cst v
 | .func f=>some (.p (.sc (.func (.func f) #[] #[])))
 | .global _=>none
structure HRel (nx:Nat) (m:List (Nat × IBlk)) (M:Mem):Prop where
 rel:MRel M
 A: ∀b,M.H.A b→b < nx
 G: ∀b,M.H.G b=look m b
structure DRel0 (M:Mem) (x:IDef) (d:Deferred):Prop where
 ex: ∃vc va:List Value,d= {target:= .fn x.fn ⟨vc⟩,args:=⟨va⟩}∧vc.length=x.cap.length∧va.length=x.args.length∧
  (∀(i:Nat) (y:IV) (v:Value),x.cap[i]? =some y→vc[i]? =some v→VRel M y v)∧(∀(i:Nat) (y:IV) (v:Value),x.args[i]? =some y→va[i]? =some v→VRel M y v)
def qoG (b:Nat):IDef:=⟨.yield 0, [], [.mp b]⟩
def DRel (M:Mem) (x:IDef) (d:Deferred):Prop:=match x.fn with
 | .yield _=> ∃b D,x=qoG b∧d= {target:= .collected D,args:=#[]}∧VRel M (.mp b) (hnd 4 D)
 | _=>DRel0 M x d
def qd3 (M:Mem):List IDef→List Deferred→Prop
 | [], []=>True
 | x::xs,d::ds=>DRel M x d∧qd3 M xs ds
 | _,_=>False
theorem DRel.step {M M':Mem} (s:qae M M') {x:IDef} {d:Deferred} (h:DRel M x d):DRel M' x d:=by
 unfold DRel at h ⊢
 split at h
 ·obtain⟨b,D,h1,h2,h3⟩:=h;exact⟨b,D,h1,h2,h3.step s⟩
 ·obtain⟨vc,va,e,h1,h2,h3,h4⟩:=h.ex
  exact⟨vc,va,e,h1,h2,fun i y v hi hv=>(h3 i y v hi hv).step s,fun i y v hi hv=>(h4 i y v hi hv).step s⟩
theorem qd3.step {M M':Mem} (s:qae M M'): ∀ {xs:List IDef} {ds:List Deferred},qd3 M xs ds→qd3 M' xs ds
 | [], [],_=>trivial
 | _::_,_::_,h=>⟨h.1.step s,qd3.step s h.2⟩
 | [],_::_,h=>h.elim
 | _::_, [],h=>h.elim
structure SRel (h0:IH) (S:qaa) (M:Mem) (a:Act):Prop where
 heap:HRel S.nx (S.l++h0.m) M
 size:a.tmps.size=S.n
 slot: ∀i x,look S.s i=some x→ ∃v,a.tmps[i]? =some v∧VRel M x v
 defs:qd3 M S.d a.defers
theorem qaH {s:List (Nat × IV)} {M:Mem} {a:Act} (h: ∀i x,look s i=some x→ ∃v,a.tmps[i]? =some v∧VRel M x v) {y:Operand} {z:IV} (hz:ev s y=some z):VRel M z (a.eval y):=by
 cases y with
 | tmp t=>
   obtain⟨v,h1,h2⟩:=h t z hz
   simp only [Act.eval,Array.getD_eq_getD_getElem?,h1,Option.getD_some]
   exact h2
 | const v=>
   simp only [ev] at hz
   unfold cst at hz
   split at hz
   ·rename_i cs
    split at hz
    ·rename_i hc
     simp only [Option.some.injEq] at hz;subst hz
     have:=qcs M (zs:=cs.toList) (by simpa using hc)
     exact .agg _ _ this.len this.one this.rel
    ·cases hz
   ·cases hz
   ·simp only [Option.some.injEq] at hz;subst hz;exact .sc M v
 | func f=>simp only [ev,Option.some.injEq] at hz;subst hz;exact .sc M _
 | global g=>simp [ev] at hz
def qaa.put (S:qaa) (dst:Option Tmp) (x:IV) (nx:Nat) (W:List (Nat × IBlk)):qaa:=
 {n:=S.n,s:=match dst with | some d=>(d,x)::S.s | none=>S.s,d:=S.d,nx,l:=W++S.l}
def qaE (S:qaa):Option Tmp→Bool
 | some d=>decide (d < S.n)
 | none=>true
theorem SRel.step {h0:IH} {S:qaa} {M M':Mem} {a:Act} (h:SRel h0 S M a) (s:qae M M') {dst:Option Tmp} {x:IV} {v:Value} {nx:Nat} {W:List (Nat × IBlk)}
  (hd:qaE S dst=true) (hv:VRel M' x v) (hh:HRel nx (W++S.l++h0.m) M'):SRel h0 (S.put dst x nx W) M' (a.put dst v):=by
 refine⟨hh,?_,?_,?_⟩
 ·cases dst with
  | none=>exact h.size
  | some d=>simp only [Act.put,Array.size_setIfInBounds];exact h.size
 ·intro i y hi
  cases dst with
  | none=>
    obtain⟨u,h1,h2⟩:=h.slot i y hi
    exact⟨u,h1,h2.step s⟩
  | some d=>
    simp only [qaa.put,look] at hi
    split at hi
    ·rename_i e
     subst e
     cases hi
     have hlt:d < a.tmps.size:=by rw [h.size];simpa [qaE] using hd
     exact⟨v,by simp [Act.put,hlt],hv⟩
    ·rename_i e
     obtain⟨u,h1,h2⟩:=h.slot i y hi
     exact⟨u,by simp only [Act.put];rw [Array.getElem?_setIfInBounds_ne e];exact h1,h2.step s⟩
 ·have:(a.put dst v).defers=a.defers:=by cases dst<;>rfl
  rw [this]
  exact h.defs.step s
theorem HRel.upd {nx:Nat} {m:List (Nat × IBlk)} {M M':Mem} (h:HRel nx m M) (hr:MRel M') {W:List (Nat × IBlk)} (hH:M'.H=M.H.upd W) (nx':Nat)
  (hA: ∀b,(b < nx∨ ∃blk,(b,blk)∈W)→b < nx'):HRel nx' (W.reverse++m) M':=by
 have key: ∀(W:List (Nat × IBlk)) (H:AH),(∀b,(H.upd W).A b↔H.A b∨ ∃blk,(b,blk)∈W)∧ ∀b,(H.upd W).G b=match look W.reverse b with | some x=>some x | none=>H.G b:=by
  intro W
  induction W with
  | nil=>intro H;exact⟨fun b=>by simp [AH.upd],fun b=>rfl⟩
  | cons p W ih=>
    intro H
    obtain⟨k,x⟩:=p
    obtain⟨i1,i2⟩:=ih (H.put k x)
    refine⟨fun b=>?_,fun b=>?_⟩
    ·show((H.put k x).upd W).A b↔_
     rw [i1 b]
     simp only [AH.put,List.mem_cons,Prod.mk.injEq]
     constructor
     ·rintro((h | h) | ⟨blk,h⟩)
      ·exact .inl h
      ·exact .inr ⟨x, .inl ⟨h,rfl⟩⟩
      ·exact .inr ⟨blk, .inr h⟩
     ·rintro(h | ⟨blk,⟨h,_⟩ | h⟩)
      ·exact .inl (.inl h)
      ·exact .inl (.inr h)
      ·exact .inr ⟨blk,h⟩
    ·show((H.put k x).upd W).G b=_
     rw [i2 b,List.reverse_cons,qad]
     cases hl:look W.reverse b with
     | some y=>rfl
     | none=>
       simp only [AH.put,look]
       by_cases e:b=k
       ·subst e;simp
       ·rw [if_neg e,if_neg (fun h=>e h.symm)]
 refine⟨hr,fun b=>?_,fun b=>?_⟩
 ·rw [hH,(key W M.H).1 b]
  exact fun hb=>hA b (hb.imp (h.A b) id)
 ·rw [hH,(key W M.H).2 b,qad,h.G b]
  cases look W.reverse b<;>rfl
variable {P:Program} {o:Oper} {ρ:Operand→Option IV} {G:Nat→Option IBlk}
inductive XK where
 | bits | frombits | floor
 deriving DecidableEq
def qp9:XK→String
 | .bits=> "math.Float64bits"
 | .frombits=> "math.Float64frombits"
 | .floor=> "math.archFloor"
def fxk (P:Program) (n:FuncId):Option XK:=
 match P.funcs[n]? with
 | some fn=>if fn.body.isNone && fn.origin== "" then
   if fn.name== "math.Float64bits" then some .bits else if fn.name== "math.Float64frombits" then some .frombits else if fn.name== "math.archFloor" then some .floor else none
   else none
 | none=>none
def qnv (x:Nat):Option Value:=
 match FloatKind.f64.decode x with
 | .nan _ _=>none
 | d=>some (.float .f64 (FloatKind.f64.encode (d.integral .down)))
def fext:XK→List IV→Option Value
 | .bits, [.p (.sc (.float .f64 b))]=>some (.int .u64 b)
 | .frombits, [.p (.sc (.int .u64 n))]=>some (.float .f64 n.toNat)
 | .floor, [.p (.sc (.float .f64 x))]=>qnv x
 | _,_=>none
def qfA (P:Program) (ρ:Operand→Option IV) (f:Operand) (args:List Operand):Option FR:=
 match ρ f,qbr ρ args with
 | some (.p (.sc (.func (.func n) ⟨[]⟩ ⟨[]⟩))),some zs=>match fxk P n with
   | some k=>(fext k zs).map fun v=> {x:= .p (.sc v)}
   | none=>none
 | _,_=>none
theorem qfU {s:String} (h:Extern.allNextRows.lookup s=none) {fn:Func} (hn:fn.name=s) (ho:fn.origin= ""):Extern.findNext fn=none:=by
 have h0:Extern.allNextRows.lookup "" =none:=by kernel_rfl
 simp only [Extern.findNext,hn,ho,h,h0,Option.map_none]
 rfl
theorem qfD {s:String} {e:Array Value→Sem Value} (h1:Extern.allGenericRows.lookup s=none) (h2:Extern.allTypedRows.lookup s=none) (h3:Extern.allRows.lookup s=some e) {fn:Func} (hn:fn.name=s):Extern.find fn=some e:=by
 simp only [Extern.find,hn,h1,h2,h3,Option.map_none]
 rfl
theorem qrH {n:FuncId} {k:XK} (h:fxk P n=some k) (args:Array Value) (w:World):
  ∃e,Extern.allRows.lookup (qp9 k)=some e∧(callFunc n args).run P w=((e args).run P w).andThen fun v w'=> .ok (.value v) w':=by
 unfold fxk at h
 split at h
 ·rename_i fn hf
  split at h
  ·rename_i hb
   simp only [Bool.and_eq_true,beq_iff_eq] at hb
   split at h
   ·rename_i hn
    have hn:=beq_iff_eq.1 hn
    cases h
    refine⟨_,(by kernel_rfl:Extern.allRows.lookup "math.Float64bits" =some Extern.MathFloatBits.float64bits),?_⟩
    exact run_callFunc_extern hf (by rw [hn];rfl) hb.1 (qfU (by kernel_rfl) hn hb.2) (qfD (by kernel_rfl) (by kernel_rfl) (by kernel_rfl) hn) args w
   ·split at h
    ·rename_i hn
     have hn:=beq_iff_eq.1 hn
     cases h
     refine⟨_,(by kernel_rfl:Extern.allRows.lookup "math.Float64frombits" =some Extern.MathFloatBits.float64frombits),?_⟩
     exact run_callFunc_extern hf (by rw [hn];rfl) hb.1 (qfU (by kernel_rfl) hn hb.2) (qfD (by kernel_rfl) (by kernel_rfl) (by kernel_rfl) hn) args w
    ·split at h
     ·rename_i hn
      have hn:=beq_iff_eq.1 hn
      cases h
      refine⟨_,(by kernel_rfl:Extern.allRows.lookup "math.archFloor" =some (Extern.MathFloor.toIntegral "math.archFloor" .down)),?_⟩
      exact run_callFunc_extern hf (by rw [hn];rfl) hb.1 (qfU (by kernel_rfl) hn hb.2) (qfD (by kernel_rfl) (by kernel_rfl) (by kernel_rfl) hn) args w
     ·cases h
  ·cases h
 ·cases h
theorem floor_number {x:Nat} {s:Bool} {m:Nat} {e:Int} (hd:FloatKind.f64.decode x= .number s m e):
  Extern.MathFloor.toIntegral "math.archFloor" .down #[.float .f64 x]=pure (.float .f64 (FloatKind.f64.encode ((Ieee.Datum.number s m e).integral .down))):=by
 rw [Extern.MathFloor.toIntegral.eq_1]
 generalize FloatKind.f64.decode=dec at hd ⊢
 conv=>lhs;whnf
 rw [hd]
theorem qiN {x:Nat} {s:Bool} (hd:FloatKind.f64.decode x= .infinity s):
  Extern.MathFloor.toIntegral "math.archFloor" .down #[.float .f64 x]=pure (.float .f64 (FloatKind.f64.encode ((Ieee.Datum.infinity s).integral .down))):=by
 rw [Extern.MathFloor.toIntegral.eq_1]
 generalize FloatKind.f64.decode=dec at hd ⊢
 conv=>lhs;whnf
 rw [hd]
theorem qqs {k:XK} {zs:List IV} {v:Value} (h:fext k zs=some v) {M:Mem} {vs:List Value} (hl:vs.length=zs.length) (hv: ∀(i:Nat) (x:IV) (v:Value),zs[i]? =some x→vs[i]? =some v→VRel M x v)
  {e:Array Value→Sem Value} (he:Extern.allRows.lookup (qp9 k)=some e) (w:World):(e ⟨vs⟩).run P w= .ok v w:=by
 unfold fext at h
 have one: ∀ {u:Value},zs= [.p (.sc u)]→vs= [u]:=by
  intro u hz
  subst hz
  match vs,hl with
  | [x],_=>have:=(hv 0 _ x rfl rfl).sc_inv;rw [this]
 split at h
 ·rename_i b
  have hvs:=one rfl
  subst hvs
  cases h
  have e1:e=Extern.MathFloatBits.float64bits:=Option.some.inj (he.symm.trans (by kernel_rfl:Extern.allRows.lookup "math.Float64bits" =some Extern.MathFloatBits.float64bits))
  subst e1
  rfl
 ·rename_i n
  have hvs:=one rfl
  subst hvs
  cases h
  have e1:e=Extern.MathFloatBits.float64frombits:=Option.some.inj (he.symm.trans (by kernel_rfl:Extern.allRows.lookup "math.Float64frombits" =some Extern.MathFloatBits.float64frombits))
  subst e1
  rfl
 ·rename_i x
  have hvs:=one rfl
  subst hvs
  have e1:e=Extern.MathFloor.toIntegral "math.archFloor" .down:=Option.some.inj (he.symm.trans (by kernel_rfl:Extern.allRows.lookup "math.archFloor" =some (Extern.MathFloor.toIntegral "math.archFloor" .down)))
  subst e1
  show(Extern.MathFloor.toIntegral "math.archFloor" .down #[.float .f64 x]).run P w=_
  unfold qnv at h
  cases hd:FloatKind.f64.decode x with
  | nan s t=>rw [hd] at h;cases h
  | number s m e=>rw [hd] at h;cases h;rw [floor_number hd];rfl
  | infinity s=>rw [hd] at h;cases h;rw [qiN hd];rfl
 ·cases h
theorem f_callx {f:Operand} {args:List Operand} {ts:Array TypeId} {fr:FR} (ho:o.op= .call {callee:= .value f,args:=⟨args⟩,argTypes:=ts}) (h:qfA P ρ f args=some fr):fr.ok P o ρ∧fr.R= []∧fr.F= []∧fr.W= []:=by
 unfold qfA at h
 split at h
 ·rename_i n zs hf ha
  split at h
  ·rename_i k hk
   simp only [Option.map_eq_some_iff] at h
   obtain⟨v,hv,rfl⟩:=h
   refine⟨qbh.read fun M a _ _ hr=>⟨v,?_, .sc M v⟩,rfl,rfl,rfl⟩
   have h1: ∀z,ρ f=some z→VRel M z (a.eval f):=fun z hz=>hr f (by simp [ho,Op.operands,Call.operands]) z hz
   have h2: ∀y∈args,∀z,ρ y=some z→VRel M z (a.eval y):=fun y hy z hz=>hr y (by simp [ho,Op.operands,Call.operands,hy]) z hz
   have e:=(h1 _ hf).sc_inv
   obtain⟨l1,l2⟩:=qbo (M:=M) (a:=a) ha h2
   obtain⟨g,g1,g2⟩:=qrH hk ⟨args.map a.eval⟩ M.w
   have g3:=qqs (P:=P) hv l1 l2 g1 M.w
   simp only [execOp,ho,resolve,e,Deferred.ofValue,Sem.run_bind,Sem.run_pure,Result.andThen_ok,invoke]
   simp only [List.append_toArray,List.nil_append,Array.append_empty,List.map_toArray]
   rw [g2,g3]
   rfl
  ·cases h
 ·cases h
end Go.Idl
/-
 Operators on numbers of which it is known that they are none (NaN).
-/
namespace Go.Idl
variable {P:Program} {o:Oper} {ρ:Operand→Option IV} {G:Nat→Option IBlk}
def qcO:BinOp→Nat→Nat→Option Nat
 | .add,a,b=>Ieee.double.add a b
 | .sub,a,b=>Ieee.double.sub a b
 | .mul,a,b=>Ieee.double.mul a b
 | .quo,a,b=>Ieee.double.div a b
 | _,_,_=>some 0
def qgd:BinOp→Option FR
 | .eql | .lss | .leq | .gtr | .geq=>some {x:=scb false}
 | .neq=>some {x:=scb true}
 | .add | .sub | .mul | .quo=>some {x:= .p (.nan .f64)}
 | _=>none
def qdW (op:BinOp):IV→IV→Option FR
 | .p (.sc (.float .f64 a)), .p (.sc (.float .f64 b))=>match qcO op a b with
   | none=>some {x:= .p (.nan .f64)}
   | some _=>none
 | .p (.nan .f64), .p (.sc (.float .f64 _))=>qgd op
 | .p (.sc (.float .f64 _)), .p (.nan .f64)=>qgd op
 | .p (.nan .f64), .p (.nan .f64)=>qgd op
 | _,_=>none
theorem qqO {r:Nat} (h:9218868437227405312 < r % 9223372036854775808):(Ieee.double.read r).isNaN=true:=by
 have e1:Ieee.double.signWeight=9223372036854775808:=by decide
 have e2:Ieee.double.binade=4503599627370496:=by decide
 have e3:Ieee.double.infRung=9218868437227405312:=by decide
 unfold Ieee.Format.read
 simp only [e1,e2,e3]
 rw [if_neg (by omega),if_neg (by omega),if_neg (by omega)]
 rfl
theorem qrS (x y t:Nat):(Ieee.double.read ((Question.nanBits .f64 x y).cut t)).isNaN=true:=by
 refine qqO ?_
 show 9218868437227405312 < ((t % 2) * 2 ^ 63+0x7ff0000000000000+1+(t / 2) % (2 ^ 52 - 1)) % 9223372036854775808
 have h1:(t / 2) % (2 ^ 52 - 1) < 4503599627370495:=Nat.mod_lt _ (by decide)
 generalize (t / 2) % (2 ^ 52 - 1)=s at h1 ⊢
 have h2:t % 2=0∨t % 2=1:=by omega
 rcases h2 with h2 | h2<;>rw [h2]<;>omega
theorem nan_order1 {a b:Nat} (h:(Ieee.double.read a).isNaN=true):Ieee.double.order a b=none:=by
 unfold Ieee.Format.order
 cases ha:Ieee.double.read a with
 | nan s t=>rfl
 | number s m e=>rw [ha] at h;cases h
 | infinity s=>rw [ha] at h;cases h
theorem nan_order2 {a b:Nat} (h:(Ieee.double.read b).isNaN=true):Ieee.double.order a b=none:=by
 unfold Ieee.Format.order
 cases hb:Ieee.double.read b with
 | nan s t=>cases Ieee.double.read a<;>rfl
 | number s m e=>rw [hb] at h;cases h
 | infinity s=>rw [hb] at h;cases h
theorem nan_arith1 {op:BinOp} {a b:Nat} (h:(Ieee.double.read a).isNaN=true) (ho:op= .add∨op= .sub∨op= .mul∨op= .quo):qcO op a b=none:=by
 cases ha:Ieee.double.read a with
 | nan s t=>
   rcases ho with rfl | rfl | rfl | rfl<;>simp only [qcO,Ieee.Format.add,Ieee.Format.sub,Ieee.Format.mul,Ieee.Format.div,ha]<;>rfl
 | number s m e=>rw [ha] at h;cases h
 | infinity s=>rw [ha] at h;cases h
theorem nan_arith2 {op:BinOp} {a b:Nat} (h:(Ieee.double.read b).isNaN=true) (ho:op= .add∨op= .sub∨op= .mul∨op= .quo):qcO op a b=none:=by
 cases hb:Ieee.double.read b with
 | nan s t=>
   rcases ho with rfl | rfl | rfl | rfl<;>simp only [qcO,Ieee.Format.add,Ieee.Format.sub,Ieee.Format.mul,Ieee.Format.div,hb]<;>cases Ieee.double.read a<;>rfl
 | number s m e=>rw [hb] at h;cases h
 | infinity s=>rw [hb] at h;cases h
theorem run_arith {op:BinOp} (ho:op= .add∨op= .sub∨op= .mul∨op= .quo) {t:TypeId} {a b:Nat} (h:qcO op a b=none) (x y:Operand) (w:World):
  ∃r,(do eqGuard op t x y (.float .f64 a) (.float .f64 b);binOp op t (.float .f64 a) (.float .f64 b):Sem Value).run P w= .ok (.float .f64 r) w.drew∧(Ieee.double.read r).isNaN=true:=by
 refine⟨(Question.nanBits .f64 a b).cut (w.tape w.drawn (.nanBits .f64 a b)),?_,qrS _ _ _⟩
 have hf:(Question.nanBits FloatKind.f64 a b).forced=false:=rfl
 rw [Sem.run_bind,qaW op t x y (by simp) (by simp) w,Result.andThen_ok]
 rcases ho with rfl | rfl | rfl | rfl<;>simp only [qcO] at h<;>simp [binOp,Op.floatArith,FloatKind.format,h,hf]
theorem qoW {op:BinOp} {c:Bool} (ho:(op= .eql∨op= .lss∨op= .leq∨op= .gtr∨op= .geq)∧c=false∨op= .neq∧c=true) {t:TypeId} {a b:Nat} (h:Ieee.double.order a b=none) (x y:Operand) (w:World):
  (do eqGuard op t x y (.float .f64 a) (.float .f64 b);binOp op t (.float .f64 a) (.float .f64 b):Sem Value).run P w= .ok (.bool c) w:=by
 have key: ∀v,qhN op .f64 a b=some v→(do eqGuard op t x y (.float .f64 a) (.float .f64 b);binOp op t (.float .f64 a) (.float .f64 b):Sem Value).run P w= .ok v w:=fun v hv=>run_sbin (P:=P) (by simp [sbin,hv]) x y w
 have h':FloatKind.f64.format.order a b=none:=h
 rcases ho with ⟨ho,rfl⟩ | ⟨rfl,rfl⟩
 ·rcases ho with rfl | rfl | rfl | rfl | rfl<;>exact key _ (by simp [qhN,h'])
 ·exact key _ (by simp [qhN,h'])
theorem f_nan1 {op:BinOp} {t t':TypeId} {x y:Operand} {zx zy:IV} {fr:FR} (ho:o.op= .binOp op t x y t') (hx:ρ x=some zx) (hy:ρ y=some zy) (h:qgd op=some fr)
  (hz: ∀(M:Mem) (u v:Value),VRel M zx u→VRel M zy v→ ∃a b,u= .float .f64 a∧v= .float .f64 b∧((Ieee.double.read a).isNaN=true∨(Ieee.double.read b).isNaN=true)):fr.ok P o ρ∧fr.R= []∧fr.F= []∧fr.W= []:=by
 have arith:(op= .add∨op= .sub∨op= .mul∨op= .quo)→fr= {x:= .p (.nan .f64)}→fr.ok P o ρ∧fr.R= []∧fr.F= []∧fr.W= []:=by
  rintro hop rfl
  refine⟨qbh.does fun M a hM _ _ hr=>?_,rfl,rfl,rfl⟩
  obtain⟨ua,ub,e1,e2,hn⟩:=hz M _ _ (hr x (by simp [ho,Op.operands]) zx hx) (hr y (by simp [ho,Op.operands]) zy hy)
  obtain⟨r,hrun,hr'⟩:=run_arith (P:=P) hop (t:=t) (a:=ua) (b:=ub) (hn.elim (nan_arith1 · hop) (nan_arith2 · hop)) x y M.w
  refine⟨.float .f64 r, {M with w:=M.w.drew},?_, .drew M,hM.drew,rfl, .p _ _ (.nan _ _ hr')⟩
  simp only [execOp,ho,e1,e2]
  rw [Sem.run_bind,hrun]
  rfl
 have cmp: ∀c:Bool,((op= .eql∨op= .lss∨op= .leq∨op= .gtr∨op= .geq)∧c=false∨op= .neq∧c=true)→fr= {x:=scb c}→fr.ok P o ρ∧fr.R= []∧fr.F= []∧fr.W= []:=by
  rintro c hop rfl
  refine⟨qbh.read fun M a _ _ hr=>?_,rfl,rfl,rfl⟩
  obtain⟨ua,ub,e1,e2,hn⟩:=hz M _ _ (hr x (by simp [ho,Op.operands]) zx hx) (hr y (by simp [ho,Op.operands]) zy hy)
  refine⟨.bool c,?_, .sc M _⟩
  have hrun:=qoW (P:=P) hop (t:=t) (a:=ua) (b:=ub) (hn.elim nan_order1 nan_order2) x y M.w
  simp only [execOp,ho,e1,e2]
  rw [Sem.run_bind,hrun]
  rfl
 cases op<;>simp only [qgd,Option.some.injEq,reduceCtorEq] at h
 all_goals first
  | exact arith (by simp) h.symm
  | exact cmp false (.inl ⟨by simp,rfl⟩) h.symm
  | exact cmp true (.inr ⟨rfl,rfl⟩) h.symm
theorem qrC {op:BinOp} {t t':TypeId} {x y:Operand} {zx zy:IV} {fr:FR} (ho:o.op= .binOp op t x y t') (hx:ρ x=some zx) (hy:ρ y=some zy) (h:qdW op zx zy=some fr):
  fr.ok P o ρ∧fr.R= []∧fr.F= []∧fr.W= []:=by
 have sc: ∀ {M:Mem} {b:Nat} {u:Value},VRel M (.p (.sc (.float .f64 b))) u→u= .float .f64 b:=fun h=>h.sc_inv
 have nn: ∀ {M:Mem} {u:Value},VRel M (.p (.nan .f64)) u→ ∃b,u= .float .f64 b∧(Ieee.double.read b).isNaN=true:=by
  intro M u h
  cases h with
  | p _ _ h=>cases h with
    | nan k b hb=>exact⟨b,rfl,hb⟩
 unfold qdW at h
 split at h
 ·rename_i a b
  split at h
  ·rename_i hn
   cases h
   refine⟨qbh.does fun M ac hM _ _ hr=>?_,rfl,rfl,rfl⟩
   have e1:=sc (hr x (by simp [ho,Op.operands]) _ hx)
   have e2:=sc (hr y (by simp [ho,Op.operands]) _ hy)
   have hop:op= .add∨op= .sub∨op= .mul∨op= .quo:=by
    cases op<;>simp [qcO] at hn ⊢
   obtain⟨r,hrun,hr'⟩:=run_arith (P:=P) hop (t:=t) hn x y M.w
   refine⟨.float .f64 r, {M with w:=M.w.drew},?_, .drew M,hM.drew,rfl, .p _ _ (.nan _ _ hr')⟩
   simp only [execOp,ho,e1,e2]
   rw [Sem.run_bind,hrun]
   rfl
  ·cases h
 ·exact f_nan1 ho hx hy h fun M u v h1 h2=>by
   obtain⟨a,rfl,ha⟩:=nn h1
   exact⟨a,_,rfl,sc h2, .inl ha⟩
 ·exact f_nan1 ho hx hy h fun M u v h1 h2=>by
   obtain⟨a,rfl,ha⟩:=nn h2
   exact⟨_,a,sc h1,rfl, .inr ha⟩
 ·exact f_nan1 ho hx hy h fun M u v h1 h2=>by
   obtain⟨a,rfl,ha⟩:=nn h1
   obtain⟨b,rfl,hb⟩:=nn h2
   exact⟨a,b,rfl,rfl, .inl ha⟩
 ·cases h
def orE (x y:Option FR):Option FR:=
 match x with
 | some a=>some a
 | none=>y
theorem qq2 {a:FR} {y:Option FR}:orE (some a) y=some a:=(rfl)
theorem qq1 {y:Option FR}:orE none y=y:=(rfl)
theorem qpR {x x' y:Option FR} (h:x=x'):orE x y=orE x' y:=by rw [h]
end Go.Idl
