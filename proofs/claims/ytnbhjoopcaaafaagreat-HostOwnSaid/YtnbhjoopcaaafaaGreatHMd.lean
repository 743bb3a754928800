/- A host takes a message, all lists of what it gives held. -/
import Derived.Test.YtnbhjoopcaaafaaGreatHMp
import Derived.Test.YtnbhjoopcaaafaaGreatHIh
import Derived.Test.YtnbhjoopcaaafaaGreatHTl
set_option linter.unusedSimpArgs false
set_option linter.unusedVariables false
namespace Go.Proofs.HO
open Go Go.Idl Go.Proofs Go.GP
set_option maxHeartbeats 20000000
set_option maxRecDepth 100000
abbrev gfW (xs:List (Nat × List (Int × Int))) (cur:List (Nat × List Int)):List (Nat × IBlk):=
 (0, .arr 1 xs.length (refsR 1 xs))::(enumB 1 (famB 2 eII xs)++(1+xs.length, .arr 1 cur.length (refsR (1+xs.length+1) cur))::enumB (1+xs.length+1) (famB 1 eI cur))
theorem gfW_low (xs:List (Nat × List (Int × Int))) (cur:List (Nat × List Int)) {c n:Nat} (hc:c=2+xs.length+cur.length) (hn:0+c=n):allLow n (gfW xs cur):=by
 refine⟨by show 0 < _;omega,by rw [blkBel_arr];exact rowsBel_refsR (by omega),allLow_app.2 ⟨allLow_fam (by omega),by show _ < _;omega,by rw [blkBel_arr];exact rowsBel_refsR (by omega),allLow_fam (by omega)⟩⟩
theorem gfW_has (xs:List (Nat × List (Int × Int))) (cur:List (Nat × List Int)) {c:Nat} (hc:c=2+xs.length+cur.length):hasAll (gfW xs cur) 0 c:=by
 refine hasAll_of fun i h1 h2=>?_
 rcases Nat.eq_zero_or_pos i with rfl | h
 ·rfl
 ·show(if 0=i then _ else Idl.look _ _:Option IBlk).isSome=true
  rw [if_neg (by omega)]
  rcases Nat.lt_or_ge i (1+xs.length) with h3 | h3
  ·obtain⟨j,rfl⟩: ∃j,i=1+j:=⟨i - 1,by omega⟩
   rw [look_fam (by omega)];rfl
  ·rw [look_famo (by omega)]
   show(if 1+xs.length=i then _ else Idl.look _ _:Option IBlk).isSome=true
   by_cases e:1+xs.length=i
   ·rw [if_pos e];rfl
   ·rw [if_neg e]
    obtain⟨j,rfl⟩: ∃j,i=1+xs.length+1+j:=⟨i - (xs.length+2),by omega⟩
    have:=look_fam (sz:=1) (e:=eI) (k:=1+xs.length+1) (r:= []) (xs:=cur) (i:=j) (by omega)
    rw [List.append_nil] at this
    rw [this];rfl
theorem ffW_gfW {inn:List (List (Int × Int))} {out:List (List Int)}:ffW 0 inn out=gfW (freshF inn) (freshF out):=by simp only [ffW,gfW,freshF_len,Nat.zero_add]
def νT (p a i t:Nat):Nat:=if t=0 then 4 else if t < 1+a then(if t - 1=i then p else 1500000+(t - 1)) else if t=1+a then 5 else 1000+(t - (2+a))
theorem νT_inj {p a b i t u:Nat} (hp:p=6∨3000000≤p) (ha:a≤1000000) (hb:b≤1000000) (ht:t < 2+a+b) (hu:u < 2+a+b) (h:νT p a i t=νT p a i u):t=u:=by
 unfold νT at h
 split at h<;>split at h<;>(try split at h)<;>(try split at h)<;>(try split at h)<;>(try split at h)<;>(try split at h)<;>(try split at h)<;>omega
theorem νT_bd {a b i t:Nat} (ha:a≤1000000) (hb:b≤1000000) (ht:t < 2+a+b):4≤νT 6 a i t∧νT 6 a i t < 3000000:=by
 unfold νT
 split<;>(try split)<;>(try split)<;>(try split)<;>omega
theorem refsR_app {β:Type}: ∀ {A:List (Nat × List β)} {B:List (Nat × List β)} {k:Nat},refsR k (A++B)=refsR k A++refsR (k+A.length) B
 | [],B,k=>rfl
 | x::A,B,k=>by
   simp only [List.cons_append,refsR,refsR_app (A:=A),List.length_cons]
   rw [show k+1+A.length=k+(A.length+1) by omega]
abbrev holeB (p:Nat) (A B:List (Nat × List (Int × Int))) (y:Nat × List (Int × Int)):List (Nat × IBlk):=enumB 1500000 (famB 2 eII A)++(p, .arr 2 y.1 (ir eII y.2))::enumB (1500000+A.length+1) (famB 2 eII B)
abbrev holeR (p:Nat) (A B:List (Nat × List (Int × Int))) (y:Nat × List (Int × Int)):List (List IV):=refsR 1500000 A++ [.ref p y.1 0 y.2.length]::refsR (1500000+A.length+1) B
theorem holeR_get {p:Nat} {A B:List (Nat × List (Int × Int))} {y:Nat × List (Int × Int)}:(holeR p A B y)[A.length]? =some [.ref p y.1 0 y.2.length]:=by
 have:(refsR 1500000 A).length=A.length:=refsR_len
 rw [List.getElem?_append_right (by omega),this,Nat.sub_self];rfl
theorem holeR_set {p p':Nat} {A B:List (Nat × List (Int × Int))} {y y':Nat × List (Int × Int)}:(holeR p A B y).set A.length [.ref p' y'.1 0 y'.2.length]=holeR p' A B y':=by
 have:(refsR 1500000 A).length=A.length:=refsR_len
 rw [List.set_append_right _ _ (by omega),this,Nat.sub_self];rfl
theorem holeR_len {p:Nat} {A B:List (Nat × List (Int × Int))} {y:Nat × List (Int × Int)}:(holeR p A B y).length=A.length+1+B.length:=by simp [refsR_len];omega
theorem look_hole {p b:Nat} {A B:List (Nat × List (Int × Int))} {y:Nat × List (Int × Int)} {r:List (Nat × IBlk)} (h1:b < 1500000∨1500000+A.length+1+B.length≤b) (h2: ¬p=b):Idl.look (holeB p A B y++r) b=Idl.look r b:=by
 rw [List.append_assoc,look_famo (by omega),List.cons_append,look_cons,if_neg h2,look_famo (by omega)]
theorem look_holeP {p:Nat} {A B:List (Nat × List (Int × Int))} {y:Nat × List (Int × Int)} {r:List (Nat × IBlk)} (h1:p < 1500000∨1500000+A.length≤p):Idl.look (holeB p A B y++r) p=some (.arr 2 y.1 (ir eII y.2)):=by
 rw [List.append_assoc,look_famo h1,List.cons_append,look_cons,if_pos rfl]
theorem look_holeA {p i:Nat} {A B:List (Nat × List (Int × Int))} {y:Nat × List (Int × Int)} {r:List (Nat × IBlk)} (h:i < A.length):Idl.look (holeB p A B y++r) (1500000+i)=some (.arr 2 A[i].1 (ir eII A[i].2)):=by
 rw [List.append_assoc,look_fam h]
theorem look_holeB {p i:Nat} {A B:List (Nat × List (Int × Int))} {y:Nat × List (Int × Int)} {r:List (Nat × IBlk)} (h:i < B.length) (h2: ¬p=1500000+A.length+1+i):Idl.look (holeB p A B y++r) (1500000+A.length+1+i)=some (.arr 2 B[i].1 (ir eII B[i].2)):=by
 rw [List.append_assoc,look_famo (by omega),List.cons_append,look_cons,if_neg h2,look_fam h]
theorem νT_gfW {p:Nat} {A B:List (Nat × List (Int × Int))} {y:Nat × List (Int × Int)} {cur:List (Nat × List Int)}:rnL (νT p (A++y::B).length A.length) (gfW (A++y::B) cur)=
  (4, .arr 1 (A++y::B).length (holeR p A B y))::(holeB p A B y++(5, .arr 1 cur.length (refsR 1000 cur))::enumB 1000 (famB 1 eI cur)):=by
 have hl:(A++y::B).length=A.length+1+B.length:=by simp;omega
 generalize hν:νT p (A++y::B).length A.length=ν
 have n0:ν 0=4:=by rw [←hν];rfl
 have n1:ν (1+(A++y::B).length)=5:=by rw [←hν];unfold νT;rw [if_neg (by omega),if_neg (by omega),if_pos rfl]
 have ni:ν (1+A.length)=p:=by rw [←hν];unfold νT;rw [if_neg (by omega),if_pos (by omega),if_pos (by omega)]
 have nA: ∀i,i < A.length→ν (1+i)=1500000+i:=fun i hi=>by rw [←hν];unfold νT;rw [if_neg (by omega),if_pos (by omega),if_neg (by omega)];omega
 have nB: ∀i,i < B.length→ν (1+A.length+1+i)=1500000+A.length+1+i:=fun i hi=>by rw [←hν];unfold νT;rw [if_neg (by omega),if_pos (by omega),if_neg (by omega)];omega
 have nC: ∀i,i < cur.length→ν (1+(A++y::B).length+1+i)=1000+i:=fun i hi=>by rw [←hν];unfold νT;rw [if_neg (by omega),if_neg (by omega),if_neg (by omega)];omega
 clear hν
 have app: ∀U V:List (Nat × IBlk),rnL ν (U++V)=rnL ν U++rnL ν V:=fun U V=>List.map_append
 have hR:rnRw ν (refsR 1 (A++y::B))=holeR p A B y:=by
  rw [refsR_app,rnRw_app,rnRw_refsR nA]
  show _++rnms ν [.ref (1+A.length) y.1 0 y.2.length]::rnRw ν (refsR (1+A.length+1) B)=_
  rw [rnRw_refsR nB]
  simp only [go_sem,ni]
  rfl
 have hF:rnL ν (enumB 1 (famB 2 eII (A++y::B)))=holeB p A B y:=by
  have e:famB 2 eII (A++y::B)=famB 2 eII A++(.arr 2 y.1 (ir eII y.2))::famB 2 eII B:=by simp [famB]
  rw [e,enumB_app,app,rnL_fam nA,famB_len]
  show _++(ν (1+A.length),rnB ν (.arr 2 y.1 (ir eII y.2)))::rnL ν (enumB (1+A.length+1) (famB 2 eII B))=_
  rw [rnL_fam nB,ni]
  simp only [go_sem]
  rfl
 show(ν 0,IBlk.arr 1 _ (rnRw ν _))::rnL ν (_++_)=_
 rw [n0,hR,app,hF]
 show _::(_++(ν _,IBlk.arr 1 _ (rnRw ν _))::rnL ν _)=_
 rw [n1,rnRw_refsR nC,rnL_fam nC]
theorem TakeFF_blk (s:Sc) (h:Hs) (m:Int × Int) (n j:Nat) (nd:Nd) (st:St) (hn:h.node=n) (hj:h.state=j) (hx:s.T[n]? =some nd) (hq:nd.states[j]? =some st) (hg:gHs h) (hl:s.ls.length≤1000000) (hk:st.takes.length≤1000000)
  (hi:h.inn.length=(ins h.node 0 s.ls).length) (hu: ∀l∈h.inn,Up l∧l.length≤1000) (h0:0≤h.steps∧h.steps≤2147483647)
  {kx i:Nat} {A B:List (List (Int × Int))} {row:List (Int × Int)} {lk:Int × Int} (he:indexL (kx:Int) 0 (ins h.node 0 s.ls)=i) (hAB:h.inn=A++row::B) (hA:A.length=i) (hlk:s.ls[kx]? =some lk) (hm1:1≤m.1∧m.1≤500) (hm2:0≤m.2∧m.2 < 4)
  (hf:tB (∃y,row[posL m.1 row]? =some y∧y.fst=m.1)=false) {c:Nat} (hc:c=2+h.inn.length+h.out.length):
  PG Tryz.prog 21 [lApp s,lHs h,sci .i64 kx, .agg [sci .i64 m.1,sci .i64 m.2]] [] c
   (.tup [.agg [sci .i64 h.node,sci .i64 (takenL lk.1 m.2 h.state st.takes),sci .i64 (h.steps+1), .ref 0 h.inn.length 0 h.inn.length, .ref (1+h.inn.length) h.out.length 0 h.out.length],sci .i64 0])
   (gfW (freshF A++(1,row.take (posL m.1 row)++m::row.drop (posL m.1 row))::freshF B) (freshF h.out)):=by
 obtain⟨N,ls,T,ff,room,acts⟩:=s
 obtain⟨node,state,steps,inn,out⟩:=h
 obtain⟨q1,q2⟩:=m
 obtain⟨la,lb⟩:=lk
 obtain⟨b2,b3,b4,b5⟩:=id hg
 simp only at hn hj hx hl hi hu h0 b2 b3 b4 b5 he hAB hlk hm1 hm2 hf hc ⊢
 subst hn hj
 have hil:inn.length=A.length+1+B.length:=by rw [hAB];simp;omega
 have lin:i < inn.length:=by omega
 have hrow:inn[i]=row:=by subst hAB;subst hA;simp
 have hrw:Up row∧row.length≤1000:=hu row (by rw [hAB];simp)
 have hlx:=hlk
 obtain⟨lkx,hlx⟩:=List.getElem?_eq_some_iff.1 hlk
 have hcl:(freshF A++(1,row.take (posL q1 row)++(q1,q2)::row.drop (posL q1 row))::freshF B).length=inn.length:=by simp [freshF_len,hil];omega
 have hco:(freshF out).length=out.length:=freshF_len out
 refine pg_of 200 (fn:=Tryz.f21) Tryz.func21 rfl (by simp [Tryz.ntmps21]) 0 rfl (by((try refine zW ?_);(try with_reducible exact True.intro))) (by((try refine zW ?_);(try with_reducible exact True.intro))) (gfW_low _ _ (by omega) rfl) (gfW_has _ _ (by omega)) (by((try refine zW ?_);(try with_reducible exact True.intro));omega) fun hs=>?_
 ((try refine zW ?_);(try with_reducible exact True.intro))
 (refine at_call 200 ?_;(refine zW ?_;try with_reducible exact True.intro);refine callA_of (In_spec N n ls hl) zB ?_;((try refine zW ?_);(try with_reducible exact True.intro)))
 ((try refine zO ?_);(try with_reducible exact True.intro))
 (refine at_call 200 ?_;(refine zW ?_;try with_reducible exact True.intro);refine callA_of (Index_spec _ _) zB ?_;((try refine zW ?_);(try with_reducible exact True.intro)))
 have c1: ¬((i:Int) < 0):=by omega
 have c2: ¬q1 < 1:=by omega
 have c3: ¬500 < q1:=by omega
 have c4: ¬q2 < 0:=by omega
 have c5: ¬4≤q2:=by omega
 (try simp (maxSteps:=2000000) (disch:=omega) only [go_sem,simprocAttr,zD,zE,he,c1,c2,c3,c4,c5])
 (refine walk_trim [2,4,5,7,8,10,40] trivial zL ?_;(refine zW ?_;try with_reducible exact True.intro);refine irun_walk (id:=4) (n:=200) [none,none,none,none,none,none,none,some [],none,none,none,none,none] mixed (by kernel_rfl) ?_)
 (try simp (maxSteps:=2000000) (disch:=omega) only [go_sem,simprocAttr,zD,zE,eMs,hrow])
 (refine at_dcall ?_;(refine zW ?_;try with_reducible exact True.intro);refine callA_of (BS_spec row q1 hrw.1 hrw.2) zB ?_;((try refine zW ?_);(try with_reducible exact True.intro)))
 (try simp (maxSteps:=2000000) (disch:=omega) only [go_sem,simprocAttr,zD,zE,hf])
 have hown:PG Tryz.prog 62 [lHs ⟨n,j,steps,inn,out⟩] [] (2+inn.length+out.length) (.agg [sci .i64 n,sci .i64 j,sci .i64 steps, .ref 0 inn.length 0 inn.length, .ref (1+inn.length) out.length 0 out.length]) (ffW 0 inn out):=hownFF_blk ⟨n,j,steps,inn,out⟩ hg rfl
 have hFA:(freshF A).length=i:=by rw [freshF_len];exact hA
 have hFB:(freshF B).length=B.length:=freshF_len B
 have hfi:freshF inn=freshF A++(0,row)::freshF B:=by rw [hAB];simp [freshF]
 have hνW:=νT_gfW (p:=6) (A:=freshF A) (B:=freshF B) (y:=(0,row)) (cur:=freshF out)
 have hνP:=νT_gfW (p:=3000002) (A:=freshF A) (B:=freshF B) (y:=(1,row.take (posL q1 row)++(q1,q2)::row.drop (posL q1 row))) (cur:=freshF out)
 rw [←hfi,←ffW_gfW] at hνW
 rw [hcl] at hνP
 simp only [freshF_len,hA] at hνW hνP
 have hgt:=holeR_get (p:=6) (A:=freshF A) (B:=freshF B) (y:=(0,row))
 have hst:=holeR_set (p:=6) (p':=3000002) (A:=freshF A) (B:=freshF B) (y:=(0,row)) (y':=(1,row.take (posL q1 row)++(q1,q2)::row.drop (posL q1 row)))
 have hrl:=holeR_len (p:=6) (A:=freshF A) (B:=freshF B) (y:=(0,row))
 have hll: ∀b r,b < 1500000∨3000000≤b→ ¬6=b→Idl.look (holeB 6 (freshF A) (freshF B) (0,row)++r) b=Idl.look r b:=fun b r h1 h2=>look_hole (by omega) h2
 have hlp: ∀r,Idl.look (holeB 6 (freshF A) (freshF B) (0,row)++r) 6=some (.arr 2 0 (ir eII row)):=fun r=>look_holeP (.inl (by decide))
 rw [hFA] at hgt hst
 have hν0:νT 6 inn.length i 0=4:=rfl
 have hν1:νT 6 inn.length i (1+inn.length)=5:=by unfold νT;rw [if_neg (by omega),if_neg (by omega),if_pos rfl]
 have hνi: ∀t u,t < 2+inn.length+out.length→u < 2+inn.length+out.length→νT 6 inn.length i t=νT 6 inn.length i u→t=u:=fun t u ht hu e=>νT_inj (.inl rfl) b2 b3 ht hu e
 have hνb: ∀t,t < 2+inn.length+out.length→4≤νT 6 inn.length i t∧νT 6 inn.length i t < 3000000:=fun t ht=>νT_bd b2 b3 ht
 generalize ffW 0 inn out=W0 at hown hνW
 generalize νT 6 inn.length i=ν at hνW hν0 hν1 hνi hνb
 have hHA: ∀t (ht:t < (freshF A).length) r,Idl.look (holeB 6 (freshF A) (freshF B) (0,row)++r) (1500000+t)=some (.arr 2 (freshF A)[t].1 (ir eII (freshF A)[t].2)):=fun t ht r=>look_holeA ht
 have hHB: ∀t (ht:t < (freshF B).length) r,Idl.look (holeB 6 (freshF A) (freshF B) (0,row)++r) (1500000+(freshF A).length+1+t)=some (.arr 2 (freshF B)[t].1 (ir eII (freshF B)[t].2)):=fun t ht r=>look_holeB ht (by omega)
 generalize hH6:holeB 6 (freshF A) (freshF B) (0,row)=H6 at hνW hll hlp hHA hHB
 have hla: ∀r q b,Idl.look ((H6++r)++q) b=Idl.look (H6++(r++q)) b:=fun r q b=>by rw [List.append_assoc]
 generalize hR6:holeR 6 (freshF A) (freshF B) (0,row)=R6 at hνW hgt hst hrl
 refine at_gN 200 ν 3000000 hown hνi hνb (by omega) ?_
 rw [hνW]
 have eF:=freshF_len out
 (try simp (maxSteps:=2000000) (disch:=omega) only [go_sem,simprocAttr,zD,zE,hν0,hν1,hla,hll,look_famo,eF])
 refine irun_walkD (id:=8) (n:=200) [none,none,none,none,none,none,none,none,none,none,some [0,1,2,3,4,5,6,7,8],some [0,1,2],none,some []] mixed (by kernel_rfl) (drun_split 10 ?_)
 simp only [List.take_succ_cons,List.take_zero,List.drop_succ_cons,List.drop_zero]
 (try simp (maxSteps:=2000000) (disch:=omega) only [go_sem,simprocAttr,zD,zE,hla,hll,hlp,hgt,lin,look_famo,eF])
 refine drun_lit (zs:= [(0, .agg [sci .i64 q1,sci .i64 q2])]) (sz:=2) (cs:= [sci .i64 q1,sci .i64 q2]) ?_ ?_ ?_ ?_ ?_
 ·rfl
 ·(try simp (maxSteps:=2000000) (disch:=omega) only [go_sem,simprocAttr,zD,zE,hla,hll,look_famo,eF])
 ·(try simp (maxSteps:=2000000) only [go_sem,simprocAttr,flit])
 ·rfl
 (try simp (maxSteps:=2000000) only [go_sem,simprocAttr,chunk])
 have hll1: ∀r,Idl.look (H6++r) 3000001=Idl.look r 3000001:=fun r=>hll 3000001 r (.inr (by decide)) (by decide)
 (refine at_dg ?_;(refine zW ?_;try with_reducible exact True.intro);refine callG_of [6,3000001] (InsertH_spec row (q1,q2) (posL q1 row) (posL_le q1 row) (by omega)) (by simp (maxSteps:=2000000) (disch:=omega) only [go_sem,simprocAttr,zD,zE,ir_eII1,hla,hll,hlp,look_famo,eF]) ?_;((try refine zW ?_);(try with_reducible exact True.intro)))
 have hnl:(row.take (posL q1 row)++(q1,q2)::row.drop (posL q1 row)).length=row.length+1:=by rw [sIns_eq (q1,q2) row,sIns_len]
 generalize row.take (posL q1 row)++(q1,q2)::row.drop (posL q1 row)=new at *
 simp only [hnl] at hst
 (try simp (maxSteps:=2000000) (disch:=omega) only [go_sem,simprocAttr,zD,zE,lin,hgt,hst,hla,hll,hlp,look_famo,eF])
 refine irun_walk (id:=9) (n:=200) [none,none,none,none,none,none,none,none,none,none,none,none,none,none,none,some [],none,some []] mixed (by kernel_rfl) ?_
 (try simp (maxSteps:=2000000) (disch:=omega) only [go_sem,simprocAttr,zD,zE,hla,hll,hlp,look_famo,eF,hlx,eII])
 (refine at_dcall ?_;(refine zW ?_;try with_reducible exact True.intro);refine callA_of (Taken_spec T n j nd st hx hq la q2 hk) zB ?_;((try refine zW ?_);(try with_reducible exact True.intro)))
 (try simp (maxSteps:=2000000) (disch:=omega) only [go_sem,simprocAttr,zD,zE,hla,hll,hlp,look_famo,eF])
 have hP2: ∀t u,t < c→u < c→νT 3000002 inn.length i t=νT 3000002 inn.length i u→t=u:=fun t u ht hu e=>νT_inj (b:=out.length) (.inr (by decide)) b2 b3 (by omega) (by omega) e
 have hP0:νT 3000002 inn.length i 0=4:=rfl
 have hP1:νT 3000002 inn.length i (1+inn.length)=5:=by unfold νT;rw [if_neg (by omega),if_neg (by omega),if_pos rfl]
 refine EndG_nu (νT 3000002 inn.length i) (.inr rfl) hP2 (by(try simp (maxSteps:=2000000) only [go_sem,simprocAttr,hP0,hP1])) (by((try refine zW ?_);(try with_reducible exact True.intro));omega) (gfW_low _ _ (by omega) (Nat.zero_add _)) ?_
 rw [hνP,List.append_nil]
 refine⟨?_,allSeen_app.2 ⟨allSeen_app.2 ⟨allSeen_famc fun t ht=>?_,?_,allSeen_famc fun t ht=>?_⟩,?_,allSeen_famc fun t ht=>?_⟩⟩
 ·((try refine zW ?_);(try with_reducible exact True.intro))
 ·have ht':=ht
  rw [hFA] at ht'
  have e0: ¬3=1500000+t:=by omega
  have e1: ¬3000000=1500000+t:=by omega
  have e2: ¬4=1500000+t:=by omega
  have e3: ¬3000002=1500000+t:=by omega
  have e4: ¬6=1500000+t:=by omega
  have e5: ¬3000001=1500000+t:=by omega
  rw [look_cons,if_neg e0,look_cons,if_neg e1,look_cons,if_neg e1,look_cons,if_neg e2,look_cons,if_neg e3,look_cons,if_neg e4,look_cons,if_neg e5,look_cons,if_neg e1,look_cons,if_neg e1,look_cons,if_neg e2,List.append_assoc,hHA]
 ·((try refine zW ?_);(try with_reducible exact True.intro))
 ·have ht':=ht
  rw [hFB] at ht'
  have e0: ¬3=1500000+(freshF A).length+1+t:=by omega
  have e1: ¬3000000=1500000+(freshF A).length+1+t:=by omega
  have e2: ¬4=1500000+(freshF A).length+1+t:=by omega
  have e3: ¬3000002=1500000+(freshF A).length+1+t:=by omega
  have e4: ¬6=1500000+(freshF A).length+1+t:=by omega
  have e5: ¬3000001=1500000+(freshF A).length+1+t:=by omega
  rw [look_cons,if_neg e0,look_cons,if_neg e1,look_cons,if_neg e1,look_cons,if_neg e2,look_cons,if_neg e3,look_cons,if_neg e4,look_cons,if_neg e5,look_cons,if_neg e1,look_cons,if_neg e1,look_cons,if_neg e2,List.append_assoc,hHB]
 ·(try simp (maxSteps:=2000000) (disch:=omega) only [go_sem,simprocAttr,zD,zE,hla,hll])
 ·have ht':=ht
  rw [eF] at ht'
  have e0: ¬3=1000+t:=by omega
  have e1: ¬3000000=1000+t:=by omega
  have e2: ¬4=1000+t:=by omega
  have e3: ¬3000002=1000+t:=by omega
  have e4: ¬6=1000+t:=by omega
  have e5: ¬3000001=1000+t:=by omega
  have f6: ¬5=1000+t:=by omega
  rw [look_cons,if_neg e0,look_cons,if_neg e1,look_cons,if_neg e1,look_cons,if_neg e2,look_cons,if_neg e3,look_cons,if_neg e4,look_cons,if_neg e5,look_cons,if_neg e1,look_cons,if_neg e1,look_cons,if_neg e2,hla,hll _ _ (.inl (by omega)) e4,List.cons_append,look_cons,if_neg f6,look_fam ht]
end Go.Proofs.HO
