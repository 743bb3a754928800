/- Facts that the proofs of this claim lean on. -/
import Derived.Test.YtnbhjoopcaaafaaGreatHCo
import Derived.Test.YtnbhjoopcaaafaaGreatIdIn
set_option linter.unusedSimpArgs false
set_option linter.unusedVariables false
/- A message laid into a list: slices.Insert. -/
namespace Go.Proofs.HO
open Go Go.Idl Go.Proofs
set_option maxHeartbeats 20000000
set_option maxRecDepth 100000
theorem pvs_p: ∀ps:List PV,pvs (ps.map .p)=some ps
 | []=>rfl
 | p::ps=>by simp [pvs,pvs_p ps]
theorem pvs2_ir (l:List (Int × Int)):Option.map (fun ps=>IV.p (PV.imm 2 ps)) (pvs2 (ir eII l))=some (.p (.imm 2 (pr eII l))):=by
 have:pvs2 (ir eII l)=some (pr eII l):=by
  induction l with
  | nil=>rfl
  | cons a l ih=>
    simp only [ir,pr,List.map_cons,pvs2,pvs_p] at ih ⊢
    rw [ih]
 rw [this];rfl
theorem ins_rows (l:List (Int × Int)) (m:Int × Int) (i:Nat) (hi:i < l.length) {z:List IV}:
  List.take (l.length+1) (List.take ((i:Int)+1).toNat (List.take i (ir eII (List.take i l)++z::List.replicate (l.length - i) z)++ir eII [m]++List.drop (i+1) (ir eII (List.take i l)++z::List.replicate (l.length - i) z))++
   ir eII (List.take ((l.length - i).min (l.length+1 - ((i:Int)+1).toNat)) (List.take (l.length - i) (List.drop i l)))++
   List.drop (((i:Int)+1).toNat+(l.length - i).min (l.length+1 - ((i:Int)+1).toNat)) (List.take i (ir eII (List.take i l)++z::List.replicate (l.length - i) z)++ir eII [m]++List.drop (i+1) (ir eII (List.take i l)++z::List.replicate (l.length - i) z)))
  =ir eII (l.take i++m::l.drop i):=by
 have hA:(ir eII (l.take i)).length=i:=by simp [ir];omega
 have ti:((i:Int)+1).toNat=i+1:=rfl
 have hX:List.take i (ir eII (List.take i l)++z::List.replicate (l.length - i) z)++ir eII [m]++List.drop (i+1) (ir eII (List.take i l)++z::List.replicate (l.length - i) z)
   =ir eII (l.take i)++ir eII [m]++List.replicate (l.length - i) z:=by
  rw [List.take_append_of_le_length (by omega),List.take_of_length_le (by omega),List.drop_append,hA,List.drop_eq_nil_of_le (by omega),List.nil_append,show i+1 - i=1 by omega,List.drop_succ_cons,List.drop_zero]
 have hm:(l.length - i).min (l.length+1 - (i+1))=l.length - i:=by
  have:min (l.length - i) (l.length+1 - (i+1))=l.length - i:=by omega
  exact this
 have hAm:(ir eII (l.take i)++ir eII [m]).length=i+1:=by rw [List.length_append,hA];rfl
 have hD:List.take (l.length - i) (List.take (l.length - i) (List.drop i l))=l.drop i:=by
  rw [List.take_take,Nat.min_self,List.take_of_length_le (by rw [List.length_drop];exact Nat.le_refl _)]
 have h1:List.take (i+1) (ir eII (l.take i)++ir eII [m]++List.replicate (l.length - i) z)=ir eII (l.take i)++ir eII [m]:=by
  rw [List.take_append_of_le_length (by omega),List.take_of_length_le (by omega)]
 have h2:List.drop (i+1+(l.length - i)) (ir eII (l.take i)++ir eII [m]++List.replicate (l.length - i) z)= []:=
  List.drop_eq_nil_of_le (by rw [List.length_append,hAm,List.length_replicate];exact Nat.le_refl _)
 rw [ti,hX,hm,hD,h1,h2,List.append_nil,List.take_of_length_le (by rw [List.length_append,hAm];simp [ir];omega)]
 simp [ir]
theorem ins_room (l:List (Int × Int)) (m:Int × Int) (i:Nat) (hi:i < l.length) {w:List IV}:
  List.take (l.length+1) (List.take i (List.take ((i:Int)+1).toNat (ir eII l++ [w])++List.take ((l.length+1 - i).min (l.length+1 - ((i:Int)+1).toNat)) (List.take (l.length+1 - i) (List.drop i (ir eII l++ [w])))++
   List.drop (((i:Int)+1).toNat+(l.length+1 - i).min (l.length+1 - ((i:Int)+1).toNat)) (ir eII l++ [w]))++ir eII (List.take (Nat.min 1 (l.length+1 - i)) [m])++
   List.drop (i+Nat.min 1 (l.length+1 - i)) (List.take ((i:Int)+1).toNat (ir eII l++ [w])++List.take ((l.length+1 - i).min (l.length+1 - ((i:Int)+1).toNat)) (List.take (l.length+1 - i) (List.drop i (ir eII l++ [w])))++
   List.drop (((i:Int)+1).toNat+(l.length+1 - i).min (l.length+1 - ((i:Int)+1).toNat)) (ir eII l++ [w])))=ir eII (l.take i++m::l.drop i):=by
 have ti:((i:Int)+1).toNat=i+1:=rfl
 have hm:(l.length+1 - i).min (l.length+1 - (i+1))=l.length - i:=by
  have:min (l.length+1 - i) (l.length+1 - (i+1))=l.length - i:=by omega
  exact this
 have h1:Nat.min 1 (l.length+1 - i)=1:=by
  have:min 1 (l.length+1 - i)=1:=by omega
  exact this
 have hR:(ir eII l).length=l.length:=by simp [ir]
 have hd:List.drop i (ir eII l++ [w])=List.drop i (ir eII l)++ [w]:=List.drop_append_of_le_length (by omega)
 have hdl:(List.drop i (ir eII l)).length=l.length - i:=by rw [List.length_drop,hR]
 have hY2:List.take (l.length - i) (List.take (l.length+1 - i) (List.drop i (ir eII l)++ [w]))=List.drop i (ir eII l):=by
  rw [List.take_take,Nat.min_eq_left (by omega),List.take_append_of_le_length (by omega),List.take_of_length_le (by omega)]
 have hY3:List.drop (i+1+(l.length - i)) (ir eII l++ [w])= []:=List.drop_eq_nil_of_le (by rw [List.length_append,hR];simp;omega)
 have hY1:(List.take (i+1) (ir eII l++ [w])).length=i+1:=by rw [List.length_take,List.length_append,hR];simp;omega
 have hT:List.take i (List.take (i+1) (ir eII l++ [w])++List.drop i (ir eII l))=List.take i (ir eII l):=by
  rw [List.take_append_of_le_length (by omega),List.take_take,Nat.min_eq_left (by omega),List.take_append_of_le_length (by omega)]
 have hD:List.drop (i+1) (List.take (i+1) (ir eII l++ [w])++List.drop i (ir eII l))=List.drop i (ir eII l):=by
  rw [List.drop_append,hY1,List.drop_eq_nil_of_le (by omega),Nat.sub_self,List.drop_zero,List.nil_append]
 rw [ti,hm,h1,hd,hY2,hY3,List.append_nil,hT,hD,List.take_of_length_le (by simp [ir];omega)]
 simp [ir,List.map_take,List.map_drop]
theorem Insert_spec (l:List (Int × Int)) (m:Int × Int) (i:Nat) (hi:i≤l.length) (hn:l.length≤1000000):
  PG Tryz.prog 73 [.ref 0 0 0 l.length,sci .i64 i, .ref 1 0 0 1] [.arr 2 0 (ir eII l), .arr 2 0 (ir eII [m])] 0 (lII (l.take i++m::l.drop i)) [(0, .arr 2 10 [])]:=by
 refine pg_of 0 (fn:=Tryz.f73) Tryz.func73 rfl (by simp [Tryz.ntmps73]) 2 rfl (by((try refine zW ?_);(try with_reducible exact True.intro))) (by((try refine zW ?_);(try with_reducible exact True.intro))) (by((try refine zW ?_);(try with_reducible exact True.intro))) (by(try simp only [go_sem,simprocAttr,hasAll])) (by((try refine zW ?_);(try with_reducible exact True.intro))) fun hs=>?_
 rw [vc_zero]
 refine irun_gho trivial (gho_move 0 0 10 (sz:=2) (g:=0) (len:=l.length) (rows:=ir eII l) rfl rfl (by decide)) ?_
 by_cases h:i=l.length
 ·subst h
  refine vc_sound _ 200 _ _ ?_
  ((try refine zO ?_);(try with_reducible exact True.intro))
 ·refine vc_sound _ 40 _ _ ?_
  ((try refine zO ?_);(try with_reducible exact True.intro))
  rw [vc_zero]
  have hlt:i < l.length:=by omega
  have hrl:(ir eII l).length=l.length:=by simp [ir]
  refine irun_dir fun M0 hM0 M a hst hr=>?_
  refine wp_seq (wp_region_list ?_)
  refine wp_fop hr rfl (by((try refine zO ?_);(try with_reducible exact True.intro));rfl) rfl fun v1 M1 st1 hr1=>?_
  simp only [put_eq,putS,List.length_nil,Nat.add_zero,List.reverse_nil,List.nil_append,List.cons_append,Nat.reduceAdd] at hr1
  refine wp_fop hr1 rfl (by((try refine zO ?_);(try with_reducible exact True.intro));rfl) rfl fun v2 M2 st2 hr2=>?_
  simp only [put_eq,putS,List.length_nil,Nat.add_zero,List.reverse_nil,List.nil_append,List.cons_append,Nat.reduceAdd] at hr2
  refine wp_fop hr2 rfl (by((try refine zO ?_);(try with_reducible exact True.intro));rfl) rfl fun v3 M3 st3 hr3=>?_
  simp only [put_eq,putS,List.length_nil,Nat.add_zero,List.reverse_nil,List.nil_append,List.cons_append,Nat.reduceAdd] at hr3
  obtain⟨v0,hv0, -⟩:=hr3.slot 0 (.ref 2 0 0 l.length) (by((try refine zW ?_);(try with_reducible exact True.intro)))
  have hsz3:=hr3.size
  have hev:=eval_tmp hv0
  refine wp_move hr3 (z:= .ref 2 0 0 l.length) (by((try refine zW ?_);(try with_reducible exact True.intro))) rfl fun hr4=>?_
  have h29: ∀v,(Act.put (Act.put (Act.put (Act.put a (some 26) v1) (some 27) v2) (some 28) v3) (some 29) v).eval (.tmp 29)=v:=fun v=>eval_tmp (put_same (by have:=hsz3;simp only at this;omega))
  simp only [put_eq,putS,List.length_nil,Nat.add_zero,List.reverse_nil,List.nil_append,List.cons_append,Nat.reduceAdd] at hr4
  refine wp_cap hr4 (e:=52) (b:=2) (g:=0) (off:=0) (len:=l.length) (sz:=2) (rows:=ir eII l) (by kernel_rfl) (by((try refine zW ?_);(try with_reducible exact True.intro))) (by((try refine zW ?_);(try with_reducible exact True.intro))) rfl fun ad cap e1 hok hr5=>?_
  rw [hrl] at hok
  have e0:v0= .slice ad l.length cap:=by
   have e2:=e1
   rw [h29] at e2
   exact hev.symm.trans e2
  simp only [put_eq,putS,List.length_nil,Nat.add_zero,List.reverse_nil,List.nil_append,List.cons_append,Nat.reduceAdd] at hr5
  subst e0
  obtain⟨_,cap',ec,c1,c2,c3,c4⟩:=id hok
  cases ec
  obtain⟨c,o,n,B,A,C⟩:=c4.resolve_left (by omega)
  simp only [Nat.zero_mul,Nat.add_zero,Nat.zero_add] at A C c3
  have h5:M3.H.G 2=some (.arr 2 0 (ir eII l)):=by rw [hr5.heap.G];rfl
  rcases Nat.lt_or_ge cap (l.length+1) with hc | hc
  ·have hcl:cap=l.length:=by omega
   subst hcl
   have hgt:(l.length:Int) < (l.length:Int)+1:=by omega
   refine wp_fop hr5 rfl (by(try simp (disch:=omega) only [go_sem,simprocAttr,zD,zE,hgt]);rfl) rfl fun v6 M6 st6 hr6=>?_
   simp only [put_eq,putS,List.length_nil,Nat.add_zero,List.reverse_nil,List.nil_append,List.cons_append,Nat.reduceAdd] at hr6
   refine wpList_nil ?_
   show(Code.cond _ _ _).wp _ _ _ _
   refine wp_cond_true (ev_rel hr6.slot (show ev _ (.tmp 31)=some (scb true) by((try refine zW ?_);(try with_reducible exact True.intro)))).sc_inv ?_
   have hβ6:M6.β 2=some (c,o,n):=(keep_S hr5 st6 hr6 (b:=2) (blk:= .arr 2 0 (ir eII l)) rfl rfl).trans B
   obtain⟨v6',hv6', -⟩:=hr6.slot 0 (.ref 2 0 0 l.length) (by((try refine zW ?_);(try with_reducible exact True.intro)))
   have e6:v6'= .slice ad l.length l.length:=by
    have h:=hv6'
    rw [put_other (by decide),put_other (by decide),put_other (by decide)] at h
    exact Option.some.inj (h.symm.trans hv0)
   subst e6
   have hB6:=hr6.heap.rel.blk 2 (.arr 2 0 (ir eII l)) (by rw [hr6.heap.G];rfl)
   obtain⟨M7,hw7,st7,hβ7,hr7⟩:=srel_reg hr6 (b:=2) (sz:=2) (g:=0) (t:=0) (rows:=ir eII l) rfl hβ6 1 (ir eII l).length (ir eII l) (by decide) (fun M' st hw hb=>brel_full hB6 hβ6 st hw hb) hv6' (len:=l.length)
    ⟨ad,l.length,rfl,Nat.le_refl _,by omega,by omega, .inr ⟨c,o,_,rfl,by rw [A];simp,by omega⟩⟩
   have hk:(l.length:Int)+1 - (i:Int)=((l.length+1 - i:Nat):Int):=by omega
   rw [←hw7]
   refine wp_seq (wp_region_list ?_)
   refine wp_fop hr7 rfl (by(try simp (disch:=omega) only [go_sem,simprocAttr,zD,zE,hk]);rfl) rfl fun u1 N1 t1 k1=>?_
   simp only [put_eq,putS,List.length_nil,Nat.add_zero,List.reverse_nil,List.nil_append,List.cons_append,Nat.reduceAdd] at k1
   refine wp_fop k1 rfl (by(try simp (disch:=omega) only [go_sem,simprocAttr,zD,zE,hk]);rfl) rfl fun u2 N2 t2 k2=>?_
   simp only [put_eq,putS,List.length_nil,Nat.add_zero,List.reverse_nil,List.nil_append,List.cons_append,Nat.reduceAdd] at k2
   refine wp_fop k2 rfl (by(try simp (disch:=omega) only [go_sem,simprocAttr,zD,zE,hk]);rfl) rfl fun u3 N3 t3 k3=>?_
   simp only [put_eq,putS,List.length_nil,Nat.add_zero,List.reverse_nil,List.nil_append,List.cons_append,Nat.reduceAdd] at k3
   refine wp_fop k3 rfl (by(try simp (disch:=omega) only [go_sem,simprocAttr,zD,zE,hk]);rfl) rfl fun u4 N4 t4 k4=>?_
   simp only [put_eq,putS,List.length_nil,Nat.add_zero,List.reverse_nil,List.nil_append,List.cons_append,Nat.reduceAdd] at k4
   refine wp_fop k4 rfl (by(try simp (disch:=omega) only [go_sem,simprocAttr,zD,zE,hk]);rfl) rfl fun u5 N5 t5 k5=>?_
   simp only [put_eq,putS,List.length_nil,Nat.add_zero,List.reverse_nil,List.nil_append,List.cons_append,Nat.reduceAdd] at k5
   refine wp_fop k5 rfl (by(try simp (disch:=omega) only [go_sem,simprocAttr,zD,zE,hk]);rfl) rfl fun u6 N6 t6 k6=>?_
   simp only [put_eq,putS,List.length_nil,Nat.add_zero,List.reverse_nil,List.nil_append,List.cons_append,Nat.reduceAdd] at k6
   refine wp_fop k6 rfl (by(try simp (disch:=omega) only [go_sem,simprocAttr,zD,zE,hk]);rfl) rfl fun u7 N7 t7 k7=>?_
   simp only [put_eq,putS,List.length_nil,Nat.add_zero,List.reverse_nil,List.nil_append,List.cons_append,Nat.reduceAdd] at k7
   refine wp_fop k7 rfl (by(try simp (disch:=omega) only [go_sem,simprocAttr,zD,zE,hk]);rfl) rfl fun u8 N8 t8 k8=>?_
   simp only [put_eq,putS,List.length_nil,Nat.add_zero,List.reverse_nil,List.nil_append,List.cons_append,Nat.reduceAdd] at k8
   have hβ8:N8.β 2=some (c,o,(ir eII l).length):=(keep_S hr7 (t1.trans (t2.trans (t3.trans (t4.trans (t5.trans (t6.trans (t7.trans t8))))))) k8 (b:=2) (blk:= .arr 2 1 (ir eII l)) rfl rfl).trans hβ7
   refine wp_appfull k8 (b:=2) (g:=1) (i:=i) (k:=l.length+1 - i) (sz:=2) (by_:=16) (zs:= [.int .i64 0, .int .i64 0]) (rows:=ir eII l) (e:=52) (ki:= .i64) (kj:= .i64) (by((try refine zW ?_);(try with_reducible exact True.intro))) (by((try refine zW ?_);(try with_reducible exact True.intro))) (by((try refine zW ?_);(try with_reducible exact True.intro))) hβ8 (by kernel_rfl) (by kernel_rfl) (by kernel_rfl) (by kernel_rfl) (by kernel_rfl) rfl rfl
    (by omega) (by omega) (by omega) (by omega) (by omega) rfl fun u9 N9 t9 k9=>?_
   simp only [put_eq,putS,List.length_nil,Nat.add_zero,List.reverse_nil,List.nil_append,List.cons_append,Nat.reduceAdd] at k9
   refine wp_fop k9 rfl (by((try refine zO ?_);(try with_reducible exact True.intro));rfl) rfl fun u10 N10 t10 k10=>?_
   simp only [put_eq,putS,List.length_nil,Nat.add_zero,List.reverse_nil,List.nil_append,List.cons_append,Nat.reduceAdd] at k10
   refine wpList_nil ?_
   refine dir_irun ?_ hM0 (hst.trans (st1.trans (st2.trans (st3.trans (st6.trans (st7.trans (t1.trans (t2.trans (t3.trans (t4.trans (t5.trans (t6.trans (t7.trans (t8.trans (t9.trans t10))))))))))))))) k10
   refine vc_sound _ 200 _ _ ?_
   have hA:(ir eII (l.take i)).length=i:=by simp [ir];omega
   have fa:i+(l.length+1 - i)=l.length+1:=by omega
   have fb:l.length+1 - i=(l.length - i)+1:=by omega
   have fm:Nat.min 1 ((l.length - i)+1)=1:=by have:min 1 (l.length - i+1)=1:=by omega
                                              exact this
   have ft:List.take 1 [m]= [m]:=rfl
   have fi:i+(l.length - i+1)=l.length+1:=by omega
   have hX:List.take i (ir eII (List.take i l)++List.replicate (l.length - i+1) [sci .i64 0,sci .i64 0])++ir eII [m]++List.drop (i+1) (ir eII (List.take i l)++List.replicate (l.length - i+1) [sci .i64 0,sci .i64 0])
     =ir eII (l.take i)++ir eII [m]++List.replicate (l.length - i) [sci .i64 0,sci .i64 0]:=by
    rw [List.take_append_of_le_length (by omega),List.take_of_length_le (by omega),List.drop_append,hA,List.drop_eq_nil_of_le (by omega),List.nil_append,show i+1 - i=1 by omega,List.drop_replicate,Nat.add_sub_cancel]
   (try simp (disch:=omega) only [go_sem,simprocAttr,zD,zE,fb,fm,ft,fi,hX,Nat.add_sub_cancel_left])
   (refine walk_trim [0,1,7,9] trivial zL ?_;(refine zW ?_;try with_reducible exact True.intro);refine irun_walk (id:=11) (n:=200) [none,none,none,none,none,none,none,none,some []] mixed (by kernel_rfl) ?_)
   ((try refine zO ?_);(try with_reducible exact True.intro))
   rw [ins_rows l m i hlt]
   exact pvs2_ir _
  ·have hgt: ¬(cap:Int) < (l.length:Int)+1:=by omega
   refine wp_fop hr5 rfl (by(try simp (disch:=omega) only [go_sem,simprocAttr,zD,zE,hgt]);rfl) rfl fun v6 M6 st6 hr6=>?_
   simp only [put_eq,putS,List.length_nil,Nat.add_zero,List.reverse_nil,List.nil_append,List.cons_append,Nat.reduceAdd] at hr6
   refine wpList_nil ?_
   show(Code.cond _ _ _).wp _ _ _ _
   refine wp_cond_false (ev_rel hr6.slot (show ev _ (.tmp 31)=some (scb false) by((try refine zW ?_);(try with_reducible exact True.intro)))).sc_inv ?_
   have hβ6:M6.β 2=some (c,o,n):=(keep_S hr5 st6 hr6 (b:=2) (blk:= .arr 2 0 (ir eII l)) rfl rfl).trans B
   obtain⟨v6',hv6', -⟩:=hr6.slot 0 (.ref 2 0 0 l.length) (by((try refine zW ?_);(try with_reducible exact True.intro)))
   have e6:v6'= .slice ad l.length cap:=by
    have h:=hv6'
    rw [put_other (by decide),put_other (by decide),put_other (by decide)] at h
    exact Option.some.inj (h.symm.trans hv0)
   subst e6
   have hB6:=hr6.heap.rel.blk 2 (.arr 2 0 (ir eII l)) (by rw [hr6.heap.G];rfl)
   obtain⟨raw,hraw,hBm⟩:=brel_more (g':=1) hB6 hβ6 (by rw [hrl];omega)
   obtain⟨u1,u2,rfl⟩: ∃u1 u2,raw= [u1,u2]:=by
    match raw,hraw with
    | [u1,u2],_=>exact⟨u1,u2,rfl⟩
   simp only [List.map_cons,List.map_nil] at hBm
   have hrl2:(ir eII l++ [[IV.p (.sc u1),IV.p (.sc u2)]]).length=l.length+1:=by rw [List.length_append,hrl];rfl
   obtain⟨M7,hw7,st7,hβ7,hr7⟩:=srel_reg hr6 (b:=2) (sz:=2) (g:=0) (t:=0) (rows:=ir eII l) rfl hβ6 1 n (ir eII l++ [[.p (.sc u1), .p (.sc u2)]]) (by decide) hBm hv6' (len:=l.length)
    ⟨ad,cap,rfl,c1,by omega,by omega, .inr ⟨c,o,_,rfl,by rw [A];simp,by omega⟩⟩
   refine wp_skip ⟨M7,_,hw7,hst.trans (st1.trans (st2.trans (st3.trans (st6.trans st7)))),hr7,?_⟩
   refine vc_sound _ 200 _ _ ?_
   (try simp (disch:=omega) only [go_sem,simprocAttr,zD,zE,hrl2])
   refine at_reslice 200 (e:=52) (b:=2) (g:=1) (off:=0) (len:=l.length) (h:=l.length+1) (sz:=2) (kj:= .i64) (rows:=ir eII l++ [[.p (.sc u1), .p (.sc u2)]]) (by kernel_rfl) (by kernel_rfl) (by((try refine zW ?_);(try with_reducible exact True.intro))) (by(try simp only [go_sem,simprocAttr,Int.natCast_add,Int.natCast_one])) (by((try refine zW ?_);(try with_reducible exact True.intro))) (by omega) rfl ?_
   (try simp (disch:=omega) only [go_sem,simprocAttr,zD,zE,hrl2])
   refine at_overlaps 200 (F:=96) (fn:=Tryz.f96) (T:=79) (T':=4) (e:=52) (b1:=1) (g1:=0) (off1:=0) (len1:=1) (b2:=2) (g2:=1) (off2:=((i:Int)+1).toNat) (len2:=l.length+1 - ((i:Int)+1).toNat) (sz:=2) (s1:=2) (s2:=2) (rows1:=ir eII [m]) (rows2:=ir eII l++ [[.p (.sc u1), .p (.sc u2)]])
    (by((try refine zW ?_);(try with_reducible exact True.intro))) Tryz.func96 (by kernel_rfl) (by kernel_rfl) (by kernel_rfl) (by kernel_rfl) (by kernel_rfl) (by kernel_rfl) (by((try refine zW ?_);(try with_reducible exact True.intro))) (by((try refine zW ?_);(try with_reducible exact True.intro))) (by decide) (by decide) (by omega) (by decide) (by((try refine zW ?_);(try with_reducible exact True.intro))) (by((try refine zW ?_);(try with_reducible exact True.intro))) rfl rfl ?_
   (try simp (disch:=omega) only [go_sem,simprocAttr,zD,zE,hrl2])
   (refine walk_trim [0,1,2,7] trivial zL ?_;(refine zW ?_;try with_reducible exact True.intro);refine irun_walk (id:=15) (n:=200) [none,none,none,none,none,none,none,none,some []] mixed (by kernel_rfl) ?_)
   (try simp (disch:=omega) only [go_sem,simprocAttr,zD,zE,hrl2])
   rw [ins_room l m i hlt]
   exact pvs2_ir _
end Go.Proofs.HO
/- slices.Insert, its result held. -/
namespace Go.Idl
open Go Go.Proofs
theorem gho_moveG {h0:IH} {S:IState} (b t g' gn:Nat) {sz g len:Nat} {rows:List (List IV)} (hb:look (S.l++h0.m) b=some (.arr sz g rows)) (ht:look S.s t=some (.ref b g 0 len)) (hg:g < g'):
  Gho h0 S ⟨S.n,(t, .ref S.nx gn 0 len)::S.s,S.d,S.nx+1,(b, .arr sz g' [])::(S.nx, .arr sz gn rows)::S.l⟩:=by
 intro M a hr
 have hM:=hr.heap.rel
 have hA: ¬M.H.A S.nx:=fun h=>Nat.lt_irrefl _ (hr.heap.A _ h)
 have hG:M.H.G b=some (.arr sz g rows):=by rw [hr.heap.G];exact hb
 have hAb:=hM.dom _ _ hG
 have hne:b≠S.nx:=fun e=>hA (e ▸hAb)
 have hGn:M.H.G S.nx=none:=by
  cases h:M.H.G S.nx with
  | none=>rfl
  | some x=>exact absurd (hM.dom _ _ h) hA
 let M':Mem:=⟨M.w,(M.H.put S.nx (.arr sz gn rows)).put b (.arr sz g' []),fun k=>if k=b then none else if k=S.nx then M.β b else M.β k⟩
 have G': ∀k,M'.H.G k=if k=b then some (.arr sz g' []) else if k=S.nx then some (.arr sz gn rows) else M.H.G k:=fun k=>rfl
 have β': ∀k,M'.β k=if k=b then none else if k=S.nx then M.β b else M.β k:=fun k=>rfl
 have own': ∀c,M'.own c→M.own c:=by
  rintro c (h | ⟨k,blk,o,n,h1,h2⟩)
  ·exact .inl h
  ·rw [G'] at h1;rw [β'] at h2
   by_cases e:k=b
   ·rw [if_pos e] at h2;cases h2
   ·rw [if_neg e] at h1 h2
    by_cases e2:k=S.nx
    ·rw [if_pos e2] at h1 h2
     exact .inr ⟨b,_,o,n,hG,h2⟩
    ·rw [if_neg e2] at h1 h2
     exact .inr ⟨k,blk,o,n,h1,h2⟩
 have st:MStep M M':=by
  refine⟨rfl,rfl,rfl,Nat.le_refl _,fun c _ ho=>⟨rfl,fun h=>ho (own' c h)⟩,fun k hk=> .inl (.inl hk),fun k blk' hk hb'=>?_,rfl,fun _ _=>rfl⟩
  rw [G'] at hb'
  have e2:k≠S.nx:=fun e=>hA (e ▸hk)
  by_cases e:k=b
  ·subst e
   rw [if_pos rfl] at hb'
   cases hb'
   exact⟨_,hG,rfl,rfl,Nat.le_of_lt hg,fun e=>by simp only [IBlk.gen] at e;omega⟩
  ·rw [if_neg e,if_neg e2] at hb'
   exact⟨blk',hb',rfl,rfl,Nat.le_refl _,fun _=>⟨by rw [β',if_neg e,if_neg e2],rfl⟩⟩
 have rel:MRel M':=by
  refine⟨fun k blk hk=>?_,fun k blk hk=>?_,fun k k' blk blk' c o n o' n' h1 h2 c1 c2=>?_,hM.olt,fun k blk c o n h1 c1=>?_⟩
  ·rw [G'] at hk
   by_cases e:k=b
   ·subst e;exact .inl (.inl hAb)
   ·rw [if_neg e] at hk
    by_cases e2:k=S.nx
    ·exact .inl (.inr e2)
    ·rw [if_neg e2] at hk;exact .inl (.inl (hM.dom _ _ hk))
  ·rw [G'] at hk
   by_cases e:k=b
   ·subst e
    rw [if_pos rfl] at hk;cases hk
    exact⟨by simp,fun _=>rfl,fun c o n hc=>by rw [β',if_pos rfl] at hc;cases hc⟩
   ·rw [if_neg e] at hk
    by_cases e2:k=S.nx
    ·subst e2
     rw [if_pos rfl] at hk;cases hk
     obtain⟨r1,r2,r3⟩:=hM.blk b _ hG
     have hβ:M'.β S.nx=M.β b:=by rw [β',if_neg e,if_pos rfl]
     refine⟨r1,fun hn=>r2 (by rw [←hβ];exact hn),fun c o n hc=>?_⟩
     rw [hβ] at hc
     obtain⟨cs,ty,q1,q2,q3,q4,q5⟩:=r3 c o n hc
     refine⟨cs,ty,q1,q2,q3,q4,fun i row j x hi hj=>?_⟩
     obtain⟨v,v1,v2,v3⟩:=q5 i row j x hi hj
     exact⟨v,v1,v2,v3.step st⟩
    ·rw [if_neg e2] at hk
     exact BRel.step st (by rw [β',if_neg e,if_neg e2]) (fun c o n _=>rfl) (hM.blk k blk hk)
  ·rw [G'] at h1 h2
   rw [β'] at c1 c2
   by_cases e:k=b
   ·rw [if_pos e] at c1;cases c1
   by_cases e':k'=b
   ·rw [if_pos e'] at c2;cases c2
   rw [if_neg e] at h1 c1
   rw [if_neg e'] at h2 c2
   by_cases f:k=S.nx
   ·by_cases f':k'=S.nx
    ·rw [f,f']
    ·rw [if_pos f] at c1
     rw [if_neg f'] at h2 c2
     exact absurd (hM.inj _ _ _ _ c o n o' n' hG h2 c1 c2) (fun q=>e' q.symm)
   ·rw [if_neg f] at h1 c1
    by_cases f':k'=S.nx
    ·rw [if_pos f'] at c2
     exact absurd (hM.inj _ _ _ _ c o n o' n' h1 hG c1 c2) e
    ·rw [if_neg f'] at h2 c2
     exact hM.inj _ _ _ _ c o n o' n' h1 h2 c1 c2
  ·rw [G'] at h1
   rw [β'] at c1
   by_cases e:k=b
   ·rw [if_pos e] at c1;cases c1
   rw [if_neg e] at h1 c1
   by_cases f:k=S.nx
   ·rw [if_pos f] at c1
    exact hM.odis _ _ c o n hG c1
   ·rw [if_neg f] at h1 c1
    exact hM.odis _ _ c o n h1 c1
 refine⟨M',rfl,st,⟨⟨rel,fun k hk=>?_,fun k=>?_⟩,hr.size,fun i y hy=>?_,hr.defs.step st⟩⟩
 ·rcases hk with (hk | hk) | hk
  ·exact Nat.lt_succ_of_lt (hr.heap.A _ hk)
  ·rw [hk];exact Nat.lt_succ_self _
  ·rw [hk];exact Nat.lt_succ_of_lt (hr.heap.A _ hAb)
 ·rw [G']
  simp only [List.cons_append,look]
  by_cases e:k=b
  ·subst e;simp
  ·have e': ¬b=k:=fun h=>e h.symm
   simp only [if_neg e,if_neg e']
   by_cases e2:k=S.nx
   ·simp only [if_pos e2,if_pos e2.symm]
   ·have e2': ¬S.nx=k:=fun h=>e2 h.symm
    simp only [if_neg e2,if_neg e2'];exact hr.heap.G k
 ·simp only [look] at hy
  split at hy
  ·rename_i e
   subst e
   cases hy
   obtain⟨v,v1,v2⟩:=hr.slot _ _ ht
   have hok:refOk (M.β b) sz rows.length 0 len v:=by
    cases v2 with
    | ref _ _ _ _ _ hA hv h=>exact(h _ hG).2 rfl
   obtain⟨ad,cap,e1,_⟩:=id hok
   refine⟨v,v1, .ref S.nx gn 0 len v (.inl (.inr rfl)) ⟨ad,cap,e1⟩ fun blk hblk=>?_⟩
   rw [G',if_neg (fun h=>hne h.symm),if_pos rfl] at hblk
   cases hblk
   exact⟨Nat.le_refl _,fun _=>by rw [β',if_neg (fun h=>hne h.symm),if_pos rfl];exact hok⟩
  ·obtain⟨u,u1,u2⟩:=hr.slot i y hy
   exact⟨u,u1,u2.step st⟩
end Go.Idl
namespace Go.Proofs.HO
open Go Go.Idl Go.Proofs
set_option maxHeartbeats 20000000
set_option maxRecDepth 100000
theorem ins_rows2 (l:List (Int × Int)) (m:Int × Int) (i:Nat) (hi:i < l.length) {z:List IV}:
  (List.take ((i:Int)+1).toNat (List.take i (ir eII (List.take i l)++z::List.replicate (l.length - i) z)++ir eII [m]++List.drop (i+1) (ir eII (List.take i l)++z::List.replicate (l.length - i) z))++
   ir eII (List.take ((l.length - i).min (l.length+1 - ((i:Int)+1).toNat)) (List.take (l.length - i) (List.drop i l)))++
   List.drop (((i:Int)+1).toNat+(l.length - i).min (l.length+1 - ((i:Int)+1).toNat)) (List.take i (ir eII (List.take i l)++z::List.replicate (l.length - i) z)++ir eII [m]++List.drop (i+1) (ir eII (List.take i l)++z::List.replicate (l.length - i) z)))
  =ir eII (l.take i++m::l.drop i):=by
 have hA:(ir eII (l.take i)).length=i:=by simp [ir];omega
 have ti:((i:Int)+1).toNat=i+1:=rfl
 have hX:List.take i (ir eII (List.take i l)++z::List.replicate (l.length - i) z)++ir eII [m]++List.drop (i+1) (ir eII (List.take i l)++z::List.replicate (l.length - i) z)
   =ir eII (l.take i)++ir eII [m]++List.replicate (l.length - i) z:=by
  rw [List.take_append_of_le_length (by omega),List.take_of_length_le (by omega),List.drop_append,hA,List.drop_eq_nil_of_le (by omega),List.nil_append,show i+1 - i=1 by omega,List.drop_succ_cons,List.drop_zero]
 have hm:(l.length - i).min (l.length+1 - (i+1))=l.length - i:=by
  have:min (l.length - i) (l.length+1 - (i+1))=l.length - i:=by omega
  exact this
 have hAm:(ir eII (l.take i)++ir eII [m]).length=i+1:=by rw [List.length_append,hA];rfl
 have hD:List.take (l.length - i) (List.take (l.length - i) (List.drop i l))=l.drop i:=by
  rw [List.take_take,Nat.min_self,List.take_of_length_le (by rw [List.length_drop];exact Nat.le_refl _)]
 have h1:List.take (i+1) (ir eII (l.take i)++ir eII [m]++List.replicate (l.length - i) z)=ir eII (l.take i)++ir eII [m]:=by
  rw [List.take_append_of_le_length (by omega),List.take_of_length_le (by omega)]
 have h2:List.drop (i+1+(l.length - i)) (ir eII (l.take i)++ir eII [m]++List.replicate (l.length - i) z)= []:=
  List.drop_eq_nil_of_le (by rw [List.length_append,hAm,List.length_replicate];exact Nat.le_refl _)
 rw [ti,hX,hm,hD,h1,h2,List.append_nil]
 simp [ir]
theorem ins_room2 (l:List (Int × Int)) (m:Int × Int) (i:Nat) (hi:i < l.length) {w:List IV}:
  (List.take i (List.take ((i:Int)+1).toNat (ir eII l++ [w])++List.take ((l.length+1 - i).min (l.length+1 - ((i:Int)+1).toNat)) (List.take (l.length+1 - i) (List.drop i (ir eII l++ [w])))++
   List.drop (((i:Int)+1).toNat+(l.length+1 - i).min (l.length+1 - ((i:Int)+1).toNat)) (ir eII l++ [w]))++ir eII (List.take (Nat.min 1 (l.length+1 - i)) [m])++
   List.drop (i+Nat.min 1 (l.length+1 - i)) (List.take ((i:Int)+1).toNat (ir eII l++ [w])++List.take ((l.length+1 - i).min (l.length+1 - ((i:Int)+1).toNat)) (List.take (l.length+1 - i) (List.drop i (ir eII l++ [w])))++
   List.drop (((i:Int)+1).toNat+(l.length+1 - i).min (l.length+1 - ((i:Int)+1).toNat)) (ir eII l++ [w])))=ir eII (l.take i++m::l.drop i):=by
 have ti:((i:Int)+1).toNat=i+1:=rfl
 have hm:(l.length+1 - i).min (l.length+1 - (i+1))=l.length - i:=by
  have:min (l.length+1 - i) (l.length+1 - (i+1))=l.length - i:=by omega
  exact this
 have h1:Nat.min 1 (l.length+1 - i)=1:=by
  have:min 1 (l.length+1 - i)=1:=by omega
  exact this
 have hR:(ir eII l).length=l.length:=by simp [ir]
 have hd:List.drop i (ir eII l++ [w])=List.drop i (ir eII l)++ [w]:=List.drop_append_of_le_length (by omega)
 have hdl:(List.drop i (ir eII l)).length=l.length - i:=by rw [List.length_drop,hR]
 have hY2:List.take (l.length - i) (List.take (l.length+1 - i) (List.drop i (ir eII l)++ [w]))=List.drop i (ir eII l):=by
  rw [List.take_take,Nat.min_eq_left (by omega),List.take_append_of_le_length (by omega),List.take_of_length_le (by omega)]
 have hY3:List.drop (i+1+(l.length - i)) (ir eII l++ [w])= []:=List.drop_eq_nil_of_le (by rw [List.length_append,hR];simp;omega)
 have hY1:(List.take (i+1) (ir eII l++ [w])).length=i+1:=by rw [List.length_take,List.length_append,hR];simp;omega
 have hT:List.take i (List.take (i+1) (ir eII l++ [w])++List.drop i (ir eII l))=List.take i (ir eII l):=by
  rw [List.take_append_of_le_length (by omega),List.take_take,Nat.min_eq_left (by omega),List.take_append_of_le_length (by omega)]
 have hD:List.drop (i+1) (List.take (i+1) (ir eII l++ [w])++List.drop i (ir eII l))=List.drop i (ir eII l):=by
  rw [List.drop_append,hY1,List.drop_eq_nil_of_le (by omega),Nat.sub_self,List.drop_zero,List.nil_append]
 rw [ti,hm,h1,hd,hY2,hY3,List.append_nil,hT,hD]
 simp [ir,List.map_take,List.map_drop]
theorem InsertH_spec (l:List (Int × Int)) (m:Int × Int) (i:Nat) (hi:i≤l.length) (hn:l.length≤1000000):
  PG Tryz.prog 73 [.ref 0 0 0 l.length,sci .i64 i, .ref 1 0 0 1] [.arr 2 0 (ir eII l), .arr 2 0 (ir eII [m])] 1 (.ref 2 1 0 (l.length+1)) [(2, .arr 2 1 (ir eII (l.take i++m::l.drop i))),(0, .arr 2 10 [])]:=by
 refine pg_of 0 (fn:=Tryz.f73) Tryz.func73 rfl (by simp [Tryz.ntmps73]) 2 rfl (by((try refine zW ?_);(try with_reducible exact True.intro))) (by((try refine zW ?_);(try with_reducible exact True.intro))) (by((try refine zW ?_);(try with_reducible exact True.intro))) (by(try simp only [go_sem,simprocAttr,hasAll])) (by((try refine zW ?_);(try with_reducible exact True.intro))) fun hs=>?_
 rw [vc_zero]
 refine irun_gho trivial (gho_move 0 0 10 (sz:=2) (g:=0) (len:=l.length) (rows:=ir eII l) rfl rfl (by decide)) ?_
 by_cases h:i=l.length
 ·subst h
  refine vc_sound _ 200 _ _ ?_
  ((try refine zO ?_);(try with_reducible exact True.intro))
  exact⟨[2],⟨rfl,by simp [geAll],by simp [apartN,apartN.nin]⟩,rfl,rfl,rfl,fzRs_refl _⟩
 ·refine vc_sound _ 40 _ _ ?_
  ((try refine zO ?_);(try with_reducible exact True.intro))
  rw [vc_zero]
  have hlt:i < l.length:=by omega
  have hrl:(ir eII l).length=l.length:=by simp [ir]
  refine irun_dir fun M0 hM0 M a hst hr=>?_
  refine wp_seq (wp_region_list ?_)
  refine wp_fop hr rfl (by((try refine zO ?_);(try with_reducible exact True.intro));rfl) rfl fun v1 M1 st1 hr1=>?_
  simp only [put_eq,putS,List.length_nil,Nat.add_zero,List.reverse_nil,List.nil_append,List.cons_append,Nat.reduceAdd] at hr1
  refine wp_fop hr1 rfl (by((try refine zO ?_);(try with_reducible exact True.intro));rfl) rfl fun v2 M2 st2 hr2=>?_
  simp only [put_eq,putS,List.length_nil,Nat.add_zero,List.reverse_nil,List.nil_append,List.cons_append,Nat.reduceAdd] at hr2
  refine wp_fop hr2 rfl (by((try refine zO ?_);(try with_reducible exact True.intro));rfl) rfl fun v3 M3 st3 hr3=>?_
  simp only [put_eq,putS,List.length_nil,Nat.add_zero,List.reverse_nil,List.nil_append,List.cons_append,Nat.reduceAdd] at hr3
  obtain⟨v0,hv0, -⟩:=hr3.slot 0 (.ref 2 0 0 l.length) (by((try refine zW ?_);(try with_reducible exact True.intro)))
  have hsz3:=hr3.size
  have hev:=eval_tmp hv0
  refine wp_move hr3 (z:= .ref 2 0 0 l.length) (by((try refine zW ?_);(try with_reducible exact True.intro))) rfl fun hr4=>?_
  have h29: ∀v,(Act.put (Act.put (Act.put (Act.put a (some 26) v1) (some 27) v2) (some 28) v3) (some 29) v).eval (.tmp 29)=v:=fun v=>eval_tmp (put_same (by have:=hsz3;simp only at this;omega))
  simp only [put_eq,putS,List.length_nil,Nat.add_zero,List.reverse_nil,List.nil_append,List.cons_append,Nat.reduceAdd] at hr4
  refine wp_cap hr4 (e:=52) (b:=2) (g:=0) (off:=0) (len:=l.length) (sz:=2) (rows:=ir eII l) (by kernel_rfl) (by((try refine zW ?_);(try with_reducible exact True.intro))) (by((try refine zW ?_);(try with_reducible exact True.intro))) rfl fun ad cap e1 hok hr5=>?_
  rw [hrl] at hok
  have e0:v0= .slice ad l.length cap:=by
   have e2:=e1
   rw [h29] at e2
   exact hev.symm.trans e2
  simp only [put_eq,putS,List.length_nil,Nat.add_zero,List.reverse_nil,List.nil_append,List.cons_append,Nat.reduceAdd] at hr5
  subst e0
  obtain⟨_,cap',ec,c1,c2,c3,c4⟩:=id hok
  cases ec
  obtain⟨c,o,n,B,A,C⟩:=c4.resolve_left (by omega)
  simp only [Nat.zero_mul,Nat.add_zero,Nat.zero_add] at A C c3
  have h5:M3.H.G 2=some (.arr 2 0 (ir eII l)):=by rw [hr5.heap.G];rfl
  rcases Nat.lt_or_ge cap (l.length+1) with hc | hc
  ·have hcl:cap=l.length:=by omega
   subst hcl
   have hgt:(l.length:Int) < (l.length:Int)+1:=by omega
   refine wp_fop hr5 rfl (by(try simp (disch:=omega) only [go_sem,simprocAttr,zD,zE,hgt]);rfl) rfl fun v6 M6 st6 hr6=>?_
   simp only [put_eq,putS,List.length_nil,Nat.add_zero,List.reverse_nil,List.nil_append,List.cons_append,Nat.reduceAdd] at hr6
   refine wpList_nil ?_
   show(Code.cond _ _ _).wp _ _ _ _
   refine wp_cond_true (ev_rel hr6.slot (show ev _ (.tmp 31)=some (scb true) by((try refine zW ?_);(try with_reducible exact True.intro)))).sc_inv ?_
   have hβ6:M6.β 2=some (c,o,n):=(keep_S hr5 st6 hr6 (b:=2) (blk:= .arr 2 0 (ir eII l)) rfl rfl).trans B
   obtain⟨v6',hv6', -⟩:=hr6.slot 0 (.ref 2 0 0 l.length) (by((try refine zW ?_);(try with_reducible exact True.intro)))
   have e6:v6'= .slice ad l.length l.length:=by
    have h:=hv6'
    rw [put_other (by decide),put_other (by decide),put_other (by decide)] at h
    exact Option.some.inj (h.symm.trans hv0)
   subst e6
   have hB6:=hr6.heap.rel.blk 2 (.arr 2 0 (ir eII l)) (by rw [hr6.heap.G];rfl)
   obtain⟨M7,hw7,st7,hβ7,hr7⟩:=srel_reg hr6 (b:=2) (sz:=2) (g:=0) (t:=0) (rows:=ir eII l) rfl hβ6 1 (ir eII l).length (ir eII l) (by decide) (fun M' st hw hb=>brel_full hB6 hβ6 st hw hb) hv6' (len:=l.length)
    ⟨ad,l.length,rfl,Nat.le_refl _,by omega,by omega, .inr ⟨c,o,_,rfl,by rw [A];simp,by omega⟩⟩
   have hk:(l.length:Int)+1 - (i:Int)=((l.length+1 - i:Nat):Int):=by omega
   rw [←hw7]
   refine wp_seq (wp_region_list ?_)
   refine wp_fop hr7 rfl (by(try simp (disch:=omega) only [go_sem,simprocAttr,zD,zE,hk]);rfl) rfl fun u1 N1 t1 k1=>?_
   simp only [put_eq,putS,List.length_nil,Nat.add_zero,List.reverse_nil,List.nil_append,List.cons_append,Nat.reduceAdd] at k1
   refine wp_fop k1 rfl (by(try simp (disch:=omega) only [go_sem,simprocAttr,zD,zE,hk]);rfl) rfl fun u2 N2 t2 k2=>?_
   simp only [put_eq,putS,List.length_nil,Nat.add_zero,List.reverse_nil,List.nil_append,List.cons_append,Nat.reduceAdd] at k2
   refine wp_fop k2 rfl (by(try simp (disch:=omega) only [go_sem,simprocAttr,zD,zE,hk]);rfl) rfl fun u3 N3 t3 k3=>?_
   simp only [put_eq,putS,List.length_nil,Nat.add_zero,List.reverse_nil,List.nil_append,List.cons_append,Nat.reduceAdd] at k3
   refine wp_fop k3 rfl (by(try simp (disch:=omega) only [go_sem,simprocAttr,zD,zE,hk]);rfl) rfl fun u4 N4 t4 k4=>?_
   simp only [put_eq,putS,List.length_nil,Nat.add_zero,List.reverse_nil,List.nil_append,List.cons_append,Nat.reduceAdd] at k4
   refine wp_fop k4 rfl (by(try simp (disch:=omega) only [go_sem,simprocAttr,zD,zE,hk]);rfl) rfl fun u5 N5 t5 k5=>?_
   simp only [put_eq,putS,List.length_nil,Nat.add_zero,List.reverse_nil,List.nil_append,List.cons_append,Nat.reduceAdd] at k5
   refine wp_fop k5 rfl (by(try simp (disch:=omega) only [go_sem,simprocAttr,zD,zE,hk]);rfl) rfl fun u6 N6 t6 k6=>?_
   simp only [put_eq,putS,List.length_nil,Nat.add_zero,List.reverse_nil,List.nil_append,List.cons_append,Nat.reduceAdd] at k6
   refine wp_fop k6 rfl (by(try simp (disch:=omega) only [go_sem,simprocAttr,zD,zE,hk]);rfl) rfl fun u7 N7 t7 k7=>?_
   simp only [put_eq,putS,List.length_nil,Nat.add_zero,List.reverse_nil,List.nil_append,List.cons_append,Nat.reduceAdd] at k7
   refine wp_fop k7 rfl (by(try simp (disch:=omega) only [go_sem,simprocAttr,zD,zE,hk]);rfl) rfl fun u8 N8 t8 k8=>?_
   simp only [put_eq,putS,List.length_nil,Nat.add_zero,List.reverse_nil,List.nil_append,List.cons_append,Nat.reduceAdd] at k8
   have hβ8:N8.β 2=some (c,o,(ir eII l).length):=(keep_S hr7 (t1.trans (t2.trans (t3.trans (t4.trans (t5.trans (t6.trans (t7.trans t8))))))) k8 (b:=2) (blk:= .arr 2 1 (ir eII l)) rfl rfl).trans hβ7
   refine wp_appfull k8 (b:=2) (g:=1) (i:=i) (k:=l.length+1 - i) (sz:=2) (by_:=16) (zs:= [.int .i64 0, .int .i64 0]) (rows:=ir eII l) (e:=52) (ki:= .i64) (kj:= .i64) (by((try refine zW ?_);(try with_reducible exact True.intro))) (by((try refine zW ?_);(try with_reducible exact True.intro))) (by((try refine zW ?_);(try with_reducible exact True.intro))) hβ8 (by kernel_rfl) (by kernel_rfl) (by kernel_rfl) (by kernel_rfl) (by kernel_rfl) rfl rfl
    (by omega) (by omega) (by omega) (by omega) (by omega) rfl fun u9 N9 t9 k9=>?_
   simp only [put_eq,putS,List.length_nil,Nat.add_zero,List.reverse_nil,List.nil_append,List.cons_append,Nat.reduceAdd] at k9
   refine wp_fop k9 rfl (by((try refine zO ?_);(try with_reducible exact True.intro));rfl) rfl fun u10 N10 t10 k10=>?_
   simp only [put_eq,putS,List.length_nil,Nat.add_zero,List.reverse_nil,List.nil_append,List.cons_append,Nat.reduceAdd] at k10
   refine wpList_nil ?_
   refine dir_irun ?_ hM0 (hst.trans (st1.trans (st2.trans (st3.trans (st6.trans (st7.trans (t1.trans (t2.trans (t3.trans (t4.trans (t5.trans (t6.trans (t7.trans (t8.trans (t9.trans t10))))))))))))))) k10
   refine vc_sound _ 200 _ _ ?_
   have hA:(ir eII (l.take i)).length=i:=by simp [ir];omega
   have fa:i+(l.length+1 - i)=l.length+1:=by omega
   have fb:l.length+1 - i=(l.length - i)+1:=by omega
   have fm:Nat.min 1 ((l.length - i)+1)=1:=by have:min 1 (l.length - i+1)=1:=by omega
                                              exact this
   have ft:List.take 1 [m]= [m]:=rfl
   have fi:i+(l.length - i+1)=l.length+1:=by omega
   have hX:List.take i (ir eII (List.take i l)++List.replicate (l.length - i+1) [sci .i64 0,sci .i64 0])++ir eII [m]++List.drop (i+1) (ir eII (List.take i l)++List.replicate (l.length - i+1) [sci .i64 0,sci .i64 0])
     =ir eII (l.take i)++ir eII [m]++List.replicate (l.length - i) [sci .i64 0,sci .i64 0]:=by
    rw [List.take_append_of_le_length (by omega),List.take_of_length_le (by omega),List.drop_append,hA,List.drop_eq_nil_of_le (by omega),List.nil_append,show i+1 - i=1 by omega,List.drop_replicate,Nat.add_sub_cancel]
   (try simp (disch:=omega) only [go_sem,simprocAttr,zD,zE,fb,fm,ft,fi,hX,Nat.add_sub_cancel_left])
   refine irun_gho trivial (gho_moveG 3 9 10 1 (sz:=2) (g:=0) (len:=l.length+1) rfl rfl (by decide)) ?_
   (refine walk_trim [0,1,7,9] trivial zL ?_;(refine zW ?_;try with_reducible exact True.intro);refine irun_walk (id:=11) (n:=200) [none,none,none,none,none,none,none,none,some []] mixed (by kernel_rfl) ?_)
   ((try refine zO ?_);(try with_reducible exact True.intro))
   refine⟨[4],⟨rfl,by simp [geAll],by simp [apartN,apartN.nin]⟩,rfl,rfl,rfl,?_⟩
   rw [ins_rows2 l m i hlt]
   exact fzRs_refl _
  ·have hgt: ¬(cap:Int) < (l.length:Int)+1:=by omega
   refine wp_fop hr5 rfl (by(try simp (disch:=omega) only [go_sem,simprocAttr,zD,zE,hgt]);rfl) rfl fun v6 M6 st6 hr6=>?_
   simp only [put_eq,putS,List.length_nil,Nat.add_zero,List.reverse_nil,List.nil_append,List.cons_append,Nat.reduceAdd] at hr6
   refine wpList_nil ?_
   show(Code.cond _ _ _).wp _ _ _ _
   refine wp_cond_false (ev_rel hr6.slot (show ev _ (.tmp 31)=some (scb false) by((try refine zW ?_);(try with_reducible exact True.intro)))).sc_inv ?_
   have hβ6:M6.β 2=some (c,o,n):=(keep_S hr5 st6 hr6 (b:=2) (blk:= .arr 2 0 (ir eII l)) rfl rfl).trans B
   obtain⟨v6',hv6', -⟩:=hr6.slot 0 (.ref 2 0 0 l.length) (by((try refine zW ?_);(try with_reducible exact True.intro)))
   have e6:v6'= .slice ad l.length cap:=by
    have h:=hv6'
    rw [put_other (by decide),put_other (by decide),put_other (by decide)] at h
    exact Option.some.inj (h.symm.trans hv0)
   subst e6
   have hB6:=hr6.heap.rel.blk 2 (.arr 2 0 (ir eII l)) (by rw [hr6.heap.G];rfl)
   obtain⟨raw,hraw,hBm⟩:=brel_more (g':=1) hB6 hβ6 (by rw [hrl];omega)
   obtain⟨u1,u2,rfl⟩: ∃u1 u2,raw= [u1,u2]:=by
    match raw,hraw with
    | [u1,u2],_=>exact⟨u1,u2,rfl⟩
   simp only [List.map_cons,List.map_nil] at hBm
   have hrl2:(ir eII l++ [[IV.p (.sc u1),IV.p (.sc u2)]]).length=l.length+1:=by rw [List.length_append,hrl];rfl
   obtain⟨M7,hw7,st7,hβ7,hr7⟩:=srel_reg hr6 (b:=2) (sz:=2) (g:=0) (t:=0) (rows:=ir eII l) rfl hβ6 1 n (ir eII l++ [[.p (.sc u1), .p (.sc u2)]]) (by decide) hBm hv6' (len:=l.length)
    ⟨ad,cap,rfl,c1,by omega,by omega, .inr ⟨c,o,_,rfl,by rw [A];simp,by omega⟩⟩
   refine wp_skip ⟨M7,_,hw7,hst.trans (st1.trans (st2.trans (st3.trans (st6.trans st7)))),hr7,?_⟩
   refine vc_sound _ 200 _ _ ?_
   (try simp (disch:=omega) only [go_sem,simprocAttr,zD,zE,hrl2])
   refine at_reslice 200 (e:=52) (b:=2) (g:=1) (off:=0) (len:=l.length) (h:=l.length+1) (sz:=2) (kj:= .i64) (rows:=ir eII l++ [[.p (.sc u1), .p (.sc u2)]]) (by kernel_rfl) (by kernel_rfl) (by((try refine zW ?_);(try with_reducible exact True.intro))) (by(try simp only [go_sem,simprocAttr,Int.natCast_add,Int.natCast_one])) (by((try refine zW ?_);(try with_reducible exact True.intro))) (by omega) rfl ?_
   (try simp (disch:=omega) only [go_sem,simprocAttr,zD,zE,hrl2])
   refine at_overlaps 200 (F:=96) (fn:=Tryz.f96) (T:=79) (T':=4) (e:=52) (b1:=1) (g1:=0) (off1:=0) (len1:=1) (b2:=2) (g2:=1) (off2:=((i:Int)+1).toNat) (len2:=l.length+1 - ((i:Int)+1).toNat) (sz:=2) (s1:=2) (s2:=2) (rows1:=ir eII [m]) (rows2:=ir eII l++ [[.p (.sc u1), .p (.sc u2)]])
    (by((try refine zW ?_);(try with_reducible exact True.intro))) Tryz.func96 (by kernel_rfl) (by kernel_rfl) (by kernel_rfl) (by kernel_rfl) (by kernel_rfl) (by kernel_rfl) (by((try refine zW ?_);(try with_reducible exact True.intro))) (by((try refine zW ?_);(try with_reducible exact True.intro))) (by decide) (by decide) (by omega) (by decide) (by((try refine zW ?_);(try with_reducible exact True.intro))) (by((try refine zW ?_);(try with_reducible exact True.intro))) rfl rfl ?_
   (try simp (disch:=omega) only [go_sem,simprocAttr,zD,zE,hrl2])
   (refine walk_trim [0,1,2,7] trivial zL ?_;(refine zW ?_;try with_reducible exact True.intro);refine irun_walk (id:=15) (n:=200) [none,none,none,none,none,none,none,none,some []] mixed (by kernel_rfl) ?_)
   (try simp (disch:=omega) only [go_sem,simprocAttr,zD,zE,hrl2])
   refine⟨[2],⟨rfl,by simp [geAll],by simp [apartN,apartN.nin]⟩,rfl,rfl,rfl,?_⟩
   rw [ins_room2 l m i hlt]
   exact fzRs_refl _
end Go.Proofs.HO
