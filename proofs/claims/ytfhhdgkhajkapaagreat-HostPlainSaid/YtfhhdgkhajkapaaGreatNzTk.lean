/- Facts that the proofs of this claim lean on. -/
import Derived.Test.YtfhhdgkhajkapaaGreatNzCq
import Derived.Test.YtfhhdgkhajkapaaGreatIdIo
import Derived.Test.YtfhhdgkhajkapaaGreatNzS2
import Derived.Test.YtfhhdgkhajkapaaGreatNzPl
set_option linter.unusedSimpArgs false
set_option linter.unusedVariables false
/- A message laid into a list: slices.Insert. -/
namespace Go.Proofs.NO
open Go Go.Idl Go.Proofs
set_option maxHeartbeats 20000000
set_option maxRecDepth 100000
theorem pvs_p: ∀ps:List PV,pvs (ps.map .p)=some ps
 | []=>rfl
 | p::ps=>by simp [pvs,pvs_p ps]
theorem pvs2_ir (l:List (Int × Int)):Option.map (fun ps=>IV.p (PV.imm 2 ps)) (pvs2 (ir eII l))=some (.p (.imm 2 (pr eII l))):=by
 have:pvs2 (ir eII l)=some (pr eII l):=by
  induction l with
  | nil=>rfl
  | cons a l ih=>
    simp only [ir,pr,List.map_cons,pvs2,pvs_p] at ih ⊢
    rw [ih]
 rw [this];rfl
theorem qn0 (l:List (Int × Int)) (m:Int × Int) (i:Nat) (hi:i < l.length) {z:List IV}:
  List.take (l.length+1) (List.take ((i:Int)+1).toNat (List.take i (ir eII (List.take i l)++z::List.replicate (l.length - i) z)++ir eII [m]++List.drop (i+1) (ir eII (List.take i l)++z::List.replicate (l.length - i) z))++
   ir eII (List.take ((l.length - i).min (l.length+1 - ((i:Int)+1).toNat)) (List.take (l.length - i) (List.drop i l)))++
   List.drop (((i:Int)+1).toNat+(l.length - i).min (l.length+1 - ((i:Int)+1).toNat)) (List.take i (ir eII (List.take i l)++z::List.replicate (l.length - i) z)++ir eII [m]++List.drop (i+1) (ir eII (List.take i l)++z::List.replicate (l.length - i) z)))
  =ir eII (l.take i++m::l.drop i):=by
 have hA:(ir eII (l.take i)).length=i:=by simp [ir];omega
 have ti:((i:Int)+1).toNat=i+1:=rfl
 have hX:List.take i (ir eII (List.take i l)++z::List.replicate (l.length - i) z)++ir eII [m]++List.drop (i+1) (ir eII (List.take i l)++z::List.replicate (l.length - i) z)
   =ir eII (l.take i)++ir eII [m]++List.replicate (l.length - i) z:=by
  rw [List.take_append_of_le_length (by omega),List.take_of_length_le (by omega),List.drop_append,hA,List.drop_eq_nil_of_le (by omega),List.nil_append,show i+1 - i=1 by omega,List.drop_succ_cons,List.drop_zero]
 have hm:(l.length - i).min (l.length+1 - (i+1))=l.length - i:=by
  have:min (l.length - i) (l.length+1 - (i+1))=l.length - i:=by omega
  exact this
 have hAm:(ir eII (l.take i)++ir eII [m]).length=i+1:=by rw [List.length_append,hA];rfl
 have hD:List.take (l.length - i) (List.take (l.length - i) (List.drop i l))=l.drop i:=by
  rw [List.take_take,Nat.min_self,List.take_of_length_le (by rw [List.length_drop];exact Nat.le_refl _)]
 have h1:List.take (i+1) (ir eII (l.take i)++ir eII [m]++List.replicate (l.length - i) z)=ir eII (l.take i)++ir eII [m]:=by
  rw [List.take_append_of_le_length (by omega),List.take_of_length_le (by omega)]
 have h2:List.drop (i+1+(l.length - i)) (ir eII (l.take i)++ir eII [m]++List.replicate (l.length - i) z)= []:=
  List.drop_eq_nil_of_le (by rw [List.length_append,hAm,List.length_replicate];exact Nat.le_refl _)
 rw [ti,hX,hm,hD,h1,h2,List.append_nil,List.take_of_length_le (by rw [List.length_append,hAm];simp [ir];omega)]
 simp [ir]
theorem qnZ (l:List (Int × Int)) (m:Int × Int) (i:Nat) (hi:i < l.length) {w:List IV}:
  List.take (l.length+1) (List.take i (List.take ((i:Int)+1).toNat (ir eII l++ [w])++List.take ((l.length+1 - i).min (l.length+1 - ((i:Int)+1).toNat)) (List.take (l.length+1 - i) (List.drop i (ir eII l++ [w])))++
   List.drop (((i:Int)+1).toNat+(l.length+1 - i).min (l.length+1 - ((i:Int)+1).toNat)) (ir eII l++ [w]))++ir eII (List.take (Nat.min 1 (l.length+1 - i)) [m])++
   List.drop (i+Nat.min 1 (l.length+1 - i)) (List.take ((i:Int)+1).toNat (ir eII l++ [w])++List.take ((l.length+1 - i).min (l.length+1 - ((i:Int)+1).toNat)) (List.take (l.length+1 - i) (List.drop i (ir eII l++ [w])))++
   List.drop (((i:Int)+1).toNat+(l.length+1 - i).min (l.length+1 - ((i:Int)+1).toNat)) (ir eII l++ [w])))=ir eII (l.take i++m::l.drop i):=by
 have ti:((i:Int)+1).toNat=i+1:=rfl
 have hm:(l.length+1 - i).min (l.length+1 - (i+1))=l.length - i:=by
  have:min (l.length+1 - i) (l.length+1 - (i+1))=l.length - i:=by omega
  exact this
 have h1:Nat.min 1 (l.length+1 - i)=1:=by
  have:min 1 (l.length+1 - i)=1:=by omega
  exact this
 have hR:(ir eII l).length=l.length:=by simp [ir]
 have hd:List.drop i (ir eII l++ [w])=List.drop i (ir eII l)++ [w]:=List.drop_append_of_le_length (by omega)
 have hdl:(List.drop i (ir eII l)).length=l.length - i:=by rw [List.length_drop,hR]
 have hY2:List.take (l.length - i) (List.take (l.length+1 - i) (List.drop i (ir eII l)++ [w]))=List.drop i (ir eII l):=by
  rw [List.take_take,Nat.min_eq_left (by omega),List.take_append_of_le_length (by omega),List.take_of_length_le (by omega)]
 have hY3:List.drop (i+1+(l.length - i)) (ir eII l++ [w])= []:=List.drop_eq_nil_of_le (by rw [List.length_append,hR];simp;omega)
 have hY1:(List.take (i+1) (ir eII l++ [w])).length=i+1:=by rw [List.length_take,List.length_append,hR];simp;omega
 have hT:List.take i (List.take (i+1) (ir eII l++ [w])++List.drop i (ir eII l))=List.take i (ir eII l):=by
  rw [List.take_append_of_le_length (by omega),List.take_take,Nat.min_eq_left (by omega),List.take_append_of_le_length (by omega)]
 have hD:List.drop (i+1) (List.take (i+1) (ir eII l++ [w])++List.drop i (ir eII l))=List.drop i (ir eII l):=by
  rw [List.drop_append,hY1,List.drop_eq_nil_of_le (by omega),Nat.sub_self,List.drop_zero,List.nil_append]
 rw [ti,hm,h1,hd,hY2,hY3,List.append_nil,hT,hD,List.take_of_length_le (by simp [ir];omega)]
 simp [ir,List.map_take,List.map_drop]
theorem qkK (l:List (Int × Int)) (m:Int × Int) (i:Nat) (hi:i≤l.length) (hn:l.length≤1000000):
  PG Tryz.prog 101 [.ref 0 0 0 l.length,sci .i64 i, .ref 1 0 0 1] [.arr 2 0 (ir eII l), .arr 2 0 (ir eII [m])] 0 (lII (l.take i++m::l.drop i)) [(0, .arr 2 10 [])]:=by
 refine qba 0 (fn:=Tryz.f101) Tryz.func101 rfl (by simp [Tryz.ntmps101]) 2 rfl (by((try refine zW ?_);(try with_reducible exact True.intro))) (by((try refine zW ?_);(try with_reducible exact True.intro))) (by((try refine zW ?_);(try with_reducible exact True.intro))) (by(try simp only [go_sem,simprocAttr,hasAll])) (by((try refine zW ?_);(try with_reducible exact True.intro))) fun hs=>?_
 rw [qem]
 refine qgx trivial (qnT 0 0 10 (sz:=2) (g:=0) (len:=l.length) (rows:=ir eII l) rfl rfl (by decide)) ?_
 by_cases h:i=l.length
 ·subst h
  refine vc_sound _ 200 _ _ ?_
  ((try refine zO ?_);(try with_reducible exact True.intro))
 ·refine vc_sound _ 40 _ _ ?_
  try refine zO ?_
  rw [qem]
  have hlt:i < l.length:=by omega
  have hrl:(ir eII l).length=l.length:=by simp [ir]
  refine qn2 fun M0 hM0 M a hst hr ro hro=>?_
  refine wpIn_seq (wpIn_region_list ?_)
  refine wp_fop hr rfl (by((try refine zO ?_);(try with_reducible exact True.intro));rfl) rfl fun v1 M1 st1 hr1=>?_
  simp only [qaJ,putS,List.length_nil,Nat.add_zero,List.reverse_nil,List.nil_append,List.cons_append,Nat.reduceAdd] at hr1
  refine wp_fop hr1 rfl (by((try refine zO ?_);(try with_reducible exact True.intro));rfl) rfl fun v2 M2 st2 hr2=>?_
  simp only [qaJ,putS,List.length_nil,Nat.add_zero,List.reverse_nil,List.nil_append,List.cons_append,Nat.reduceAdd] at hr2
  refine wp_fop hr2 rfl (by((try refine zO ?_);(try with_reducible exact True.intro));rfl) rfl fun v3 M3 st3 hr3=>?_
  simp only [qaJ,putS,List.length_nil,Nat.add_zero,List.reverse_nil,List.nil_append,List.cons_append,Nat.reduceAdd] at hr3
  obtain⟨v0,hv0, -⟩:=hr3.slot 0 (.ref 2 0 0 l.length) (by((try refine zW ?_);(try with_reducible exact True.intro)))
  have hsz3:=hr3.size
  have hev:=qjO hv0
  refine qpJ hr3 (z:= .ref 2 0 0 l.length) (by((try refine zW ?_);(try with_reducible exact True.intro))) rfl fun hr4=>?_
  have h29: ∀v,(Act.put (Act.put (Act.put (Act.put a (some 26) v1) (some 27) v2) (some 28) v3) (some 29) v).eval (.tmp 29)=v:=fun v=>qjO (qot (by have:=hsz3;simp only at this;omega))
  simp only [qaJ,putS,List.length_nil,Nat.add_zero,List.reverse_nil,List.nil_append,List.cons_append,Nat.reduceAdd] at hr4
  refine wp_cap hr4 (e:=67) (b:=2) (g:=0) (off:=0) (len:=l.length) (sz:=2) (rows:=ir eII l) (by kernel_rfl) (by((try refine zW ?_);(try with_reducible exact True.intro))) (by((try refine zW ?_);(try with_reducible exact True.intro))) rfl fun ad cap e1 hok hr5=>?_
  rw [hrl] at hok
  have e0:v0= .slice ad l.length cap:=by
   have e2:=e1
   rw [h29] at e2
   exact hev.symm.trans e2
  simp only [qaJ,putS,List.length_nil,Nat.add_zero,List.reverse_nil,List.nil_append,List.cons_append,Nat.reduceAdd] at hr5
  subst e0
  obtain⟨_,cap',ec,c1,c2,c3,c4⟩:=id hok
  cases ec
  obtain⟨c,o,n,B,A,C⟩:=c4.resolve_left (by omega)
  simp only [Nat.zero_mul,Nat.add_zero,Nat.zero_add] at A C c3
  have h5:M3.H.G 2=some (.arr 2 0 (ir eII l)):=by rw [hr5.heap.G];rfl
  rcases Nat.lt_or_ge cap (l.length+1) with hc | hc
  ·have hcl:cap=l.length:=by omega
   subst hcl
   have hgt:(l.length:Int) < (l.length:Int)+1:=by omega
   refine wp_fop hr5 rfl (by(try simp (disch:=omega) only [go_sem,simprocAttr,zD,zE,hgt]);rfl) rfl fun v6 M6 st6 hr6=>?_
   simp only [qaJ,putS,List.length_nil,Nat.add_zero,List.reverse_nil,List.nil_append,List.cons_append,Nat.reduceAdd] at hr6
   refine wpListIn_nil ?_
   show(Code.cond _ _ _).wpIn _ _ _ _ _ _
   refine wpIn_cond_true (qau hr6.slot (show ev _ (.tmp 31)=some (scb true) by((try refine zW ?_);(try with_reducible exact True.intro)))).sc_inv ?_
   have hβ6:M6.β 2=some (c,o,n):=(qj4 hr5 st6 hr6 (b:=2) (blk:= .arr 2 0 (ir eII l)) rfl rfl).trans B
   obtain⟨v6',hv6', -⟩:=hr6.slot 0 (.ref 2 0 0 l.length) (by((try refine zW ?_);(try with_reducible exact True.intro)))
   have e6:v6'= .slice ad l.length l.length:=by
    have h:=hv6'
    rw [qcy (by decide),qcy (by decide),qcy (by decide)] at h
    exact Option.some.inj (h.symm.trans hv0)
   subst e6
   have hB6:=hr6.heap.rel.blk 2 (.arr 2 0 (ir eII l)) (by rw [hr6.heap.G];rfl)
   obtain⟨M7,hw7,st7,hβ7,hr7⟩:=qkx hr6 (b:=2) (sz:=2) (g:=0) (t:=0) (rows:=ir eII l) rfl hβ6 1 (ir eII l).length (ir eII l) (by decide) (fun M' st hw hb=>qmT hB6 hβ6 st hw hb) hv6' (len:=l.length)
    ⟨ad,l.length,rfl,Nat.le_refl _,by omega,by omega, .inr ⟨c,o,_,rfl,by rw [A];simp,by omega⟩⟩
   have hk:(l.length:Int)+1 - (i:Int)=((l.length+1 - i:Nat):Int):=by omega
   rw [←hw7]
   refine wpIn_seq (wpIn_region_list ?_)
   refine wp_fop hr7 rfl (by(try simp (disch:=omega) only [go_sem,simprocAttr,zD,zE,hk]);rfl) rfl fun u1 N1 t1 k1=>?_
   simp only [qaJ,putS,List.length_nil,Nat.add_zero,List.reverse_nil,List.nil_append,List.cons_append,Nat.reduceAdd] at k1
   refine wp_fop k1 rfl (by(try simp (disch:=omega) only [go_sem,simprocAttr,zD,zE,hk]);rfl) rfl fun u2 N2 t2 k2=>?_
   simp only [qaJ,putS,List.length_nil,Nat.add_zero,List.reverse_nil,List.nil_append,List.cons_append,Nat.reduceAdd] at k2
   refine wp_fop k2 rfl (by(try simp (disch:=omega) only [go_sem,simprocAttr,zD,zE,hk]);rfl) rfl fun u3 N3 t3 k3=>?_
   simp only [qaJ,putS,List.length_nil,Nat.add_zero,List.reverse_nil,List.nil_append,List.cons_append,Nat.reduceAdd] at k3
   refine wp_fop k3 rfl (by(try simp (disch:=omega) only [go_sem,simprocAttr,zD,zE,hk]);rfl) rfl fun u4 N4 t4 k4=>?_
   simp only [qaJ,putS,List.length_nil,Nat.add_zero,List.reverse_nil,List.nil_append,List.cons_append,Nat.reduceAdd] at k4
   refine wp_fop k4 rfl (by(try simp (disch:=omega) only [go_sem,simprocAttr,zD,zE,hk]);rfl) rfl fun u5 N5 t5 k5=>?_
   simp only [qaJ,putS,List.length_nil,Nat.add_zero,List.reverse_nil,List.nil_append,List.cons_append,Nat.reduceAdd] at k5
   refine wp_fop k5 rfl (by(try simp (disch:=omega) only [go_sem,simprocAttr,zD,zE,hk]);rfl) rfl fun u6 N6 t6 k6=>?_
   simp only [qaJ,putS,List.length_nil,Nat.add_zero,List.reverse_nil,List.nil_append,List.cons_append,Nat.reduceAdd] at k6
   refine wp_fop k6 rfl (by(try simp (disch:=omega) only [go_sem,simprocAttr,zD,zE,hk]);rfl) rfl fun u7 N7 t7 k7=>?_
   simp only [qaJ,putS,List.length_nil,Nat.add_zero,List.reverse_nil,List.nil_append,List.cons_append,Nat.reduceAdd] at k7
   refine wp_fop k7 rfl (by(try simp (disch:=omega) only [go_sem,simprocAttr,zD,zE,hk]);rfl) rfl fun u8 N8 t8 k8=>?_
   simp only [qaJ,putS,List.length_nil,Nat.add_zero,List.reverse_nil,List.nil_append,List.cons_append,Nat.reduceAdd] at k8
   have hβ8:N8.β 2=some (c,o,(ir eII l).length):=(qj4 hr7 (t1.trans (t2.trans (t3.trans (t4.trans (t5.trans (t6.trans (t7.trans t8))))))) k8 (b:=2) (blk:= .arr 2 1 (ir eII l)) rfl rfl).trans hβ7
   refine qmB k8 (b:=2) (g:=1) (i:=i) (k:=l.length+1 - i) (sz:=2) (by_:=16) (zs:= [.int .i64 0, .int .i64 0]) (rows:=ir eII l) (e:=67) (ki:= .i64) (kj:= .i64) (by((try refine zW ?_);(try with_reducible exact True.intro))) (by((try refine zW ?_);(try with_reducible exact True.intro))) (by((try refine zW ?_);(try with_reducible exact True.intro))) hβ8 (by kernel_rfl) (by kernel_rfl) (by kernel_rfl) (by kernel_rfl) (by kernel_rfl) rfl rfl
    (by omega) (by omega) (by omega) (by omega) (by omega) rfl fun u9 N9 t9 k9=>?_
   simp only [qaJ,putS,List.length_nil,Nat.add_zero,List.reverse_nil,List.nil_append,List.cons_append,Nat.reduceAdd] at k9
   refine wp_fop k9 rfl (by((try refine zO ?_);(try with_reducible exact True.intro));rfl) rfl fun u10 N10 t10 k10=>?_
   simp only [qaJ,putS,List.length_nil,Nat.add_zero,List.reverse_nil,List.nil_append,List.cons_append,Nat.reduceAdd] at k10
   refine wpListIn_nil ?_
   refine qnJ ?_ hM0 (hst.trans (st1.trans (st2.trans (st3.trans (st6.trans (st7.trans (t1.trans (t2.trans (t3.trans (t4.trans (t5.trans (t6.trans (t7.trans (t8.trans (t9.trans t10))))))))))))))) k10 hro.r
   refine vc_sound _ 200 _ _ ?_
   have hA:(ir eII (l.take i)).length=i:=by simp [ir];omega
   have fa:i+(l.length+1 - i)=l.length+1:=by omega
   have fb:l.length+1 - i=(l.length - i)+1:=by omega
   have fm:Nat.min 1 ((l.length - i)+1)=1:=by have:min 1 (l.length - i+1)=1:=by omega
                                              exact this
   have ft:List.take 1 [m]= [m]:=rfl
   have fi:i+(l.length - i+1)=l.length+1:=by omega
   have hX:List.take i (ir eII (List.take i l)++List.replicate (l.length - i+1) [sci .i64 0,sci .i64 0])++ir eII [m]++List.drop (i+1) (ir eII (List.take i l)++List.replicate (l.length - i+1) [sci .i64 0,sci .i64 0])
     =ir eII (l.take i)++ir eII [m]++List.replicate (l.length - i) [sci .i64 0,sci .i64 0]:=by
    rw [List.take_append_of_le_length (by omega),List.take_of_length_le (by omega),List.drop_append,hA,List.drop_eq_nil_of_le (by omega),List.nil_append,show i+1 - i=1 by omega,List.drop_replicate,Nat.add_sub_cancel]
   (try simp (disch:=omega) only [go_sem,simprocAttr,zD,zE,fb,fm,ft,fi,hX,Nat.add_sub_cancel_left])
   (refine walk_trim [0,1,7,9] trivial zL ?_;refine zW ?_;refine irun_walk (id:=11) (n:=200) [none,none,none,none,none,none,none,none,some []] qan (by kernel_rfl) ?_)
   try refine zO ?_
   rw [qn0 l m i hlt]
   exact pvs2_ir _
  ·have hgt: ¬(cap:Int) < (l.length:Int)+1:=by omega
   refine wp_fop hr5 rfl (by(try simp (disch:=omega) only [go_sem,simprocAttr,zD,zE,hgt]);rfl) rfl fun v6 M6 st6 hr6=>?_
   simp only [qaJ,putS,List.length_nil,Nat.add_zero,List.reverse_nil,List.nil_append,List.cons_append,Nat.reduceAdd] at hr6
   refine wpListIn_nil ?_
   show(Code.cond _ _ _).wpIn _ _ _ _ _ _
   refine wpIn_cond_false (qau hr6.slot (show ev _ (.tmp 31)=some (scb false) by((try refine zW ?_);(try with_reducible exact True.intro)))).sc_inv ?_
   have hβ6:M6.β 2=some (c,o,n):=(qj4 hr5 st6 hr6 (b:=2) (blk:= .arr 2 0 (ir eII l)) rfl rfl).trans B
   obtain⟨v6',hv6', -⟩:=hr6.slot 0 (.ref 2 0 0 l.length) (by((try refine zW ?_);(try with_reducible exact True.intro)))
   have e6:v6'= .slice ad l.length cap:=by
    have h:=hv6'
    rw [qcy (by decide),qcy (by decide),qcy (by decide)] at h
    exact Option.some.inj (h.symm.trans hv0)
   subst e6
   have hB6:=hr6.heap.rel.blk 2 (.arr 2 0 (ir eII l)) (by rw [hr6.heap.G];rfl)
   obtain⟨raw,hraw,hBm⟩:=qmU (g':=1) hB6 hβ6 (by rw [hrl];omega)
   obtain⟨u1,u2,rfl⟩: ∃u1 u2,raw= [u1,u2]:=by
    match raw,hraw with
    | [u1,u2],_=>exact⟨u1,u2,rfl⟩
   simp only [List.map_cons,List.map_nil] at hBm
   have hrl2:(ir eII l++ [[IV.p (.sc u1),IV.p (.sc u2)]]).length=l.length+1:=by rw [List.length_append,hrl];rfl
   obtain⟨M7,hw7,st7,hβ7,hr7⟩:=qkx hr6 (b:=2) (sz:=2) (g:=0) (t:=0) (rows:=ir eII l) rfl hβ6 1 n (ir eII l++ [[.p (.sc u1), .p (.sc u2)]]) (by decide) hBm hv6' (len:=l.length)
    ⟨ad,cap,rfl,c1,by omega,by omega, .inr ⟨c,o,_,rfl,by rw [A];simp,by omega⟩⟩
   refine wpIn_skip ⟨M7,_,hw7,hst.trans (st1.trans (st2.trans (st3.trans (st6.trans st7)))),hr7,?_⟩
   refine vc_sound _ 200 _ _ ?_
   (try simp (disch:=omega) only [go_sem,simprocAttr,zD,zE,hrl2])
   refine qlZ 200 (e:=67) (b:=2) (g:=1) (off:=0) (len:=l.length) (h:=l.length+1) (sz:=2) (kj:= .i64) (rows:=ir eII l++ [[.p (.sc u1), .p (.sc u2)]]) (by kernel_rfl) (by kernel_rfl) (by((try refine zW ?_);(try with_reducible exact True.intro))) (by(try simp only [go_sem,simprocAttr,Int.natCast_add,Int.natCast_one])) (by((try refine zW ?_);(try with_reducible exact True.intro))) (by omega) rfl ?_
   (try simp (disch:=omega) only [go_sem,simprocAttr,zD,zE,hrl2])
   refine qkQ 200 (F:=179) (fn:=Tryz.f179) (T:=63) (T':=4) (e:=67) (b1:=1) (g1:=0) (off1:=0) (len1:=1) (b2:=2) (g2:=1) (off2:=((i:Int)+1).toNat) (len2:=l.length+1 - ((i:Int)+1).toNat) (sz:=2) (s1:=2) (s2:=2) (rows1:=ir eII [m]) (rows2:=ir eII l++ [[.p (.sc u1), .p (.sc u2)]])
    (by((try refine zW ?_);(try with_reducible exact True.intro))) Tryz.func179 (by kernel_rfl) (by kernel_rfl) (by kernel_rfl) (by kernel_rfl) (by kernel_rfl) (by kernel_rfl) (by((try refine zW ?_);(try with_reducible exact True.intro))) (by((try refine zW ?_);(try with_reducible exact True.intro))) (by decide) (by decide) (by omega) (by decide) (by((try refine zW ?_);(try with_reducible exact True.intro))) (by((try refine zW ?_);(try with_reducible exact True.intro))) rfl rfl ?_
   (try simp (disch:=omega) only [go_sem,simprocAttr,zD,zE,hrl2])
   (refine walk_trim [0,1,2,7] trivial zL ?_;refine zW ?_;refine irun_walk (id:=15) (n:=200) [none,none,none,none,none,none,none,none,some []] qan (by kernel_rfl) ?_)
   (try simp (disch:=omega) only [go_sem,simprocAttr,zD,zE,hrl2])
   rw [qnZ l m i hlt]
   exact pvs2_ir _
end Go.Proofs.NO
/- A host takes a message. -/
namespace Go.Proofs.NO
open Go Go.Idl Go.Proofs Go.GP
set_option maxHeartbeats 20000000
set_option maxRecDepth 100000
def zH:Hs:=⟨0,0,0, [], []⟩
noncomputable def qf4 (ls:List (Int × Int)) (st:St) (h:Hs) (x:Int) (m:Int × Int):Hs × Int:=
 if qax x 0 (ins h.node 0 ls) < 0∨m.1 < 1∨500 < m.1∨m.2 < 0∨4≤m.2 then(zH,1)
 else match h.inn[(qax x 0 (ins h.node 0 ls)).toNat]?,ls[x.toNat]? with
 | some l,some lk=>if tB (∃y,l[posL m.1 l]? =some y∧y.1=m.1)=true then(zH,1)
   else(⟨h.node,qbC lk.1 m.2 h.state st.takes,h.steps+1,h.inn.set (qax x 0 (ins h.node 0 ls)).toNat (l.take (posL m.1 l)++m::l.drop (posL m.1 l)),h.out⟩,0)
 | _,_=>(zH,1)
theorem qeL {l:List (List (Int × Int))} {i0 b n i:Nat} (h0:i0 < l.length):(qag l i0 b n i)[i0]? =some [.ref b 0 0 n]:=by
 unfold qag
 have:(ir eMs (l.take i0)).length=i0:=by simp [ir];omega
 rw [List.getElem?_append_right (by omega),this,Nat.sub_self];rfl
theorem qmw {l:List (List (Int × Int))} {i0 b n:Nat} (h0:i0 < l.length) {x:List (Int × Int)}:(qag l i0 b n l.length).set i0 [.p (.imm 2 (pr eII x))]=ir eMs (l.set i0 x):=by
 unfold qag
 have hl:(ir eMs (l.take i0)).length=i0:=by simp [ir];omega
 rw [List.set_append_right _ _ (by omega),hl,Nat.sub_self,List.set_cons_zero,List.take_of_length_le (Nat.le_refl _),List.set_eq_take_append_cons_drop,if_pos h0]
 simp [ir,eMs]
theorem qlw (q:Int): ∀l:List (Int × Int),posL q l≤l.length
 | []=>by simp [posL]
 | x::r=>by
   have:=qlw q r
   unfold posL
   split<;>simp<;>omega
theorem qpc {a b:Int}:ir eII [(a,b)]= [[sci .i64 a,sci .i64 b]]:=rfl
theorem qlm {n l:Int}: ∀ {ls:List (Int × Int)} {i:Nat},l∈ins n i ls→ ∃j,∃hj:j < ls.length,l=((i+j:Nat):Int)∧ls[j].2=n
 | [],i,h=>by simp [ins] at h
 | x::r,i,h=>by
   unfold ins at h
   have go:l∈ins n (i+1) r→ ∃j,∃hj:j < (x::r).length,l=((i+j:Nat):Int)∧(x::r)[j].2=n:=fun h=>by
    obtain⟨j,hj,e1,e2⟩:=qlm h
    exact⟨j+1,by simpa using hj,by rw [e1];congr 1;omega,by simpa using e2⟩
   split at h
   ·rename_i hx
    rcases List.mem_cons.1 h with h | h
    ·exact⟨0,by simp,by simpa using h,by simpa using hx⟩
    ·exact go h
   ·exact go h
@[go_sem] theorem qpT {l:List (List (Int × Int))} {i0 k n i:Nat}:rnRw (ridx [] k) (qag l i0 1 n i)=qag l i0 (k+1) n i:=by
  unfold qag
  simp only [go_sem]
theorem qmK (s:Sc) (h:Hs) (x:Int) (m:Int × Int) (n j:Nat) (nd:Nd) (st:St) (hn:h.node=n) (hj:h.state=j) (hx:s.T[n]? =some nd) (hq:nd.states[j]? =some st) (hg:gHs h) (hl:s.ls.length≤1000000) (hk:st.takes.length≤1000000)
  (hi:h.inn.length=(ins h.node 0 s.ls).length) (hu: ∀l∈h.inn,UpH l∧l.length≤1000) (h0:0≤h.steps∧h.steps≤2147483647):
  Pure Tryz.prog 29 [lApp s,lHs h,sci .i64 x, .agg [sci .i64 m.1,sci .i64 m.2]] (.tup [lHs (qf4 s.ls st h x m).1,sci .i64 (qf4 s.ls st h x m).2]):=by
 obtain⟨N,ls,T,ff,room,acts⟩:=s
 obtain⟨node,state,steps,inn,out⟩:=h
 obtain⟨q1,q2⟩:=m
 obtain⟨b2,b3,b4,b5⟩:=id hg
 simp only at hn hj hx hl hi hu h0 b2 b3 b4 b5
 subst hn hj
 generalize hres:qf4 ls st ⟨n,j,steps,inn,out⟩ x (q1,q2)=res
 unfold qf4 at hres
 simp only at hres
 refine qah 200 (fn:=Tryz.f29) Tryz.func29 rfl (by simp [Tryz.ntmps29]) zB zB fun hs=>?_
 try refine zW ?_
 (refine qaf 200 ?_;refine zW ?_;refine callA_of (qd1 N n ls hl) zB ?_;((try refine zW ?_);(try with_reducible exact True.intro)))
 try refine zO ?_
 (refine qaf 200 ?_;refine zW ?_;refine callA_of (qcC _ _) zB ?_;((try refine zW ?_);(try with_reducible exact True.intro)))
 by_cases c1:qax x 0 (ins n 0 ls) < 0
 ·rw [if_pos (.inl c1)] at hres
  subst hres
  (try simp (maxSteps:=2000000) (disch:=omega) only [go_sem,simprocAttr,zD,zE,c1,zH])
 by_cases c2:q1 < 1
 ·rw [if_pos (.inr (.inl c2))] at hres
  subst hres
  (try simp (maxSteps:=2000000) (disch:=omega) only [go_sem,simprocAttr,zD,zE,c1,c2,zH])
 by_cases c3:500 < q1
 ·rw [if_pos (.inr (.inr (.inl c3)))] at hres
  subst hres
  (try simp (maxSteps:=2000000) (disch:=omega) only [go_sem,simprocAttr,zD,zE,c1,c2,c3,zH])
 by_cases c4:q2 < 0
 ·rw [if_pos (.inr (.inr (.inr (.inl c4))))] at hres
  subst hres
  (try simp (maxSteps:=2000000) (disch:=omega) only [go_sem,simprocAttr,zD,zE,c1,c2,c3,c4,zH])
 by_cases c5:4≤q2
 ·rw [if_pos (.inr (.inr (.inr (.inr c5))))] at hres
  subst hres
  (try simp (maxSteps:=2000000) (disch:=omega) only [go_sem,simprocAttr,zD,zE,c1,c2,c3,c4,c5,zH])
 rw [if_neg (fun q=>q.elim c1 fun q=>q.elim c2 fun q=>q.elim c3 fun q=>q.elim c4 c5)] at hres
 rcases indexL_at x (ins n 0 ls) with e | ⟨i,e,hil,hig⟩
 ·exact absurd (by omega) c1
 have lin:i < inn.length:=by omega
 rw [e,Int.toNat_natCast,List.getElem?_eq_getElem lin] at hres
 obtain⟨kx,hkx,rfl,hlk⟩:=qlm (List.mem_of_getElem? hig)
 simp only [Nat.zero_add] at hig e hres
 rw [Int.toNat_natCast,List.getElem?_eq_getElem hkx] at hres
 simp only at hres
 obtain⟨hup,hrl⟩:=hu _ (List.getElem_mem lin)
 have hblk:=ql4 ⟨n,j,steps,inn,out⟩ hg i lin
 simp only at hblk
 generalize hrow:inn[i]=row at *
 generalize hlx:ls[kx]=lk at *
 obtain⟨la,lb⟩:=lk
 have c1': ¬((i:Int) < 0):=by omega
 (try simp (maxSteps:=2000000) (disch:=omega) only [go_sem,simprocAttr,zD,zE,e,c1',c2,c3,c4,c5])
 (refine walk_trim [2,4,5,7,8,10] trivial zL ?_;refine zW ?_;refine irun_walk (id:=4) (n:=200) [none,none,none,none,none,none,none,some [],none,none,none,none,none] qan (by kernel_rfl) ?_)
 (try simp (maxSteps:=2000000) (disch:=omega) only [go_sem,simprocAttr,zD,zE,eMs,hrow])
 (refine at_dcall ?_;refine zW ?_;refine callA_of (qoK row q1 hup hrl) zB ?_;((try refine zW ?_);(try with_reducible exact True.intro)))
 cases hf:tB (∃y,row[posL q1 row]? =some y∧y.fst=q1) with
 | true=>
   rw [hf,if_pos rfl] at hres
   subst hres
   (try simp (maxSteps:=2000000) (disch:=omega) only [go_sem,simprocAttr,zD,zE,hf,zH])
 | false=>
   rw [hf,if_neg (by decide)] at hres
   subst hres
   (try simp (maxSteps:=2000000) (disch:=omega) only [go_sem,simprocAttr,zD,zE,hf])
   (refine qlY 200 ?_;refine zW ?_;refine qaB [] (hblk) zU ?_;((try refine zW ?_);(try with_reducible exact True.intro)))
   have hg1:=qeL (l:=inn) (i0:=i) (b:=5) (n:=row.length) (i:=inn.length) lin
   try refine zO ?_
   (refine walk_trim [2,4,5,7,8,10,11,13,45] trivial zL ?_;((try refine zW ?_);(try with_reducible exact True.intro)))
   refine qg5 (id:=8) (n:=200) [none,none,none,none,none,none,none,none,none,none,some [0,1,2,3,4,5,6,7,8],some [0,1,2],none,some []] qan (by kernel_rfl) (qgP 10 ?_)
   simp only [List.take_succ_cons,List.take_zero,List.drop_succ_cons,List.drop_zero]
   (try simp (maxSteps:=2000000) only [go_sem,simprocAttr,lin,hg1])
   refine qnK (zs:= [(0, .agg [sci .i64 q1,sci .i64 q2])]) (sz:=2) (cs:= [sci .i64 q1,sci .i64 q2]) ?_ ?_ ?_ ?_ ?_
   ·rfl
   ·((try refine zW ?_);(try with_reducible exact True.intro))
   ·(try simp (maxSteps:=2000000) only [go_sem,simprocAttr,flit])
   ·rfl
   (try simp (maxSteps:=2000000) only [go_sem,simprocAttr,chunk])
   (refine qes ?_;refine zW ?_;refine qaB [5,7] (qkK row (q1,q2) (posL q1 row) (qlw q1 row) (by omega)) (by simp (maxSteps:=2000000) (disch:=omega) only [go_sem,simprocAttr,zD,zE,qpc]) ?_;((try refine zW ?_);(try with_reducible exact True.intro)))
   (try simp (maxSteps:=2000000) only [go_sem,simprocAttr,lin,hg1,qmw lin])
   (refine walk_trim [2,4,5,7,8,13,45] trivial zL ?_;refine zW ?_;refine irun_walk (id:=9) (n:=200) [none,none,none,none,none,none,none,none,none,none,none,none,none,none,none,some [],none,some []] qan (by kernel_rfl) ?_)
   (try simp (maxSteps:=2000000) (disch:=omega) only [go_sem,simprocAttr,zD,zE,hlx,eII])
   (refine at_dcall ?_;refine zW ?_;refine callA_of (qeq T n j nd st hx hq la q2 hk) zB ?_;((try refine zW ?_);(try with_reducible exact True.intro)))
   try refine zO ?_
   rw [List.take_of_length_le (by simp)]
end Go.Proofs.NO
