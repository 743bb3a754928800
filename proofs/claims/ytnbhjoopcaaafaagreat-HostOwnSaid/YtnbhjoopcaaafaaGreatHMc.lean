/- A host's pick, all lists of what it gives held: its walk. -/
import Derived.Test.YtnbhjoopcaaafaaGreatHMp
set_option linter.unusedSimpArgs false
set_option linter.unusedVariables false
namespace Go.Proofs.HO
open Go Go.Idl Go.Proofs Go.GP
set_option maxHeartbeats 20000000
set_option maxRecDepth 100000
theorem fblksIn_app {S:IState} {m:List (Nat × IBlk)} {ids:List Nat} {nx:Nat} {B:List (Nat × IBlk)}: ∀ {A:List (Nat × IBlk)},fblksIn S m ids nx A→fblksIn S m ids nx B→fblksIn S m ids nx (A++B)
 | [],_,h=>h
 | (b,blk)::r,h1,h2=>⟨h1.1,h1.2.1,fblksIn_app h1.2.2 h2⟩
theorem ddp_two {k2:Nat} {K:List IBlk}: ∀ {L:List IBlk} {k1:Nat},(k1+L.length≤k2)→ddp (enumB k1 L++enumB k2 K)=enumB k1 L++enumB k2 K
 | [],k1,_=>ddp_enumB
 | x::L,k1,h=>by
   simp only [List.length_cons] at h
   show(k1,x)::List.filter _ (ddp (enumB (k1+1) L++enumB k2 K))=_
   rw [ddp_two (by omega),List.filter_append,filter_enumB (.inl (by omega)),filter_enumB (.inl (by omega))]
   rfl
theorem filter_two {k1 k2 b:Nat} {L K:List IBlk} (h1:b < k1∨k1+L.length≤b) (h2:b < k2∨k2+K.length≤b):List.filter (fun q:Nat × IBlk=>q.fst != b) (enumB k1 L++enumB k2 K)=enumB k1 L++enumB k2 K:=by
 rw [List.filter_append,filter_enumB h1,filter_enumB h2]
def νF (a i:Nat):Nat:=if i=0 then 4 else if i < 1+a then 1500000+(i - 1) else if i=1+a then 5 else 1000+(i - (2+a))
theorem νF_inj {a b i j:Nat} (ha:a≤1000000) (hb:b≤1000000) (hi:i < 2+a+b) (hj:j < 2+a+b) (h:νF a i=νF a j):i=j:=by
 unfold νF at h
 split at h<;>split at h<;>(try split at h)<;>(try split at h)<;>(try split at h)<;>(try split at h)<;>omega
theorem νF_bd {a b i:Nat} (ha:a≤1000000) (hb:b≤1000000) (hi:i < 2+a+b):4≤νF a i∧νF a i < 3000000:=by
 unfold νF
 split<;>(try split)<;>(try split)<;>omega
theorem νF_ffW {inn:List (List (Int × Int))} {out:List (List Int)}:rnL (νF inn.length) (ffW 0 inn out)=(4, .arr 1 inn.length (refsR 1500000 (freshF inn)))::(enumB 1500000 (famB 2 eII (freshF inn))++(5, .arr 1 out.length (refsR 1000 (freshF out)))::enumB 1000 (famB 1 eI (freshF out))):=by
 have h1:νF inn.length (0+1+inn.length)=5:=by unfold νF;rw [if_neg (by omega),if_neg (by omega),if_pos (by omega)]
 have eL1:rnL (νF inn.length) (enumB (0+1) (famB 2 eII (freshF inn)))=enumB 1500000 (famB 2 eII (freshF inn)):=rnL_fam fun i hi=>by
  rw [freshF_len] at hi
  unfold νF;rw [if_neg (by omega),if_pos (by omega)];omega
 have eR1:rnRw (νF inn.length) (refsR (0+1) (freshF inn))=refsR 1500000 (freshF inn):=rnRw_refsR fun i hi=>by
  rw [freshF_len] at hi
  unfold νF;rw [if_neg (by omega),if_pos (by omega)];omega
 have eL2:rnL (νF inn.length) (enumB (0+1+inn.length+1) (famB 1 eI (freshF out)))=enumB 1000 (famB 1 eI (freshF out)):=rnL_fam fun i hi=>by
  unfold νF;rw [if_neg (by omega),if_neg (by omega),if_neg (by omega)];omega
 have eR2:rnRw (νF inn.length) (refsR (0+1+inn.length+1) (freshF out))=refsR 1000 (freshF out):=rnRw_refsR fun i hi=>by
  unfold νF;rw [if_neg (by omega),if_neg (by omega),if_neg (by omega)];omega
 have app: ∀A B:List (Nat × IBlk),rnL (νF inn.length) (A++B)=rnL (νF inn.length) A++rnL (νF inn.length) B:=fun A B=>List.map_append
 show(_,IBlk.arr 1 _ (rnRw _ _))::rnL _ (_++_)=_
 rw [eR1,app,eL1]
 show _::(_++(_,IBlk.arr 1 _ (rnRw _ _))::rnL _ _)=_
 rw [eR2,eL2,h1]
 rfl
abbrev pfW (inn:List (List (Int × Int))) (cur:List (Nat × List Int)):List (Nat × IBlk):=
 (0, .arr 1 inn.length (refsR 1 (freshF inn)))::(enumB 1 (famB 2 eII (freshF inn))++(1+inn.length, .arr 1 cur.length (refsR (2+inn.length) cur))::enumB (2+inn.length) (famB 1 eI cur))
theorem pfW_low (inn:List (List (Int × Int))) (cur:List (Nat × List Int)) {c n:Nat} (hc:c=2+inn.length+cur.length) (hn:0+c=n):allLow n (pfW inn cur):=by
 refine⟨by show 0 < _;omega,by rw [blkBel_arr];exact rowsBel_refsR (by rw [freshF_len];omega),allLow_app.2 ⟨allLow_fam (by rw [freshF_len];omega),by show _ < _;omega,by rw [blkBel_arr];exact rowsBel_refsR (by omega),allLow_fam (by omega)⟩⟩
theorem pfW_has (inn:List (List (Int × Int))) (cur:List (Nat × List Int)) {c:Nat} (hc:c=2+inn.length+cur.length):hasAll (pfW inn cur) 0 c:=by
 refine hasAll_of fun i h1 h2=>?_
 rcases Nat.eq_zero_or_pos i with rfl | h
 ·rfl
 ·show(if 0=i then _ else Idl.look _ _:Option IBlk).isSome=true
  rw [if_neg (by omega)]
  rcases Nat.lt_or_ge i (1+inn.length) with h3 | h3
  ·obtain⟨j,rfl⟩: ∃j,i=1+j:=⟨i - 1,by omega⟩
   rw [look_fam (by rw [freshF_len];omega)];rfl
  ·rw [look_famo (by rw [freshF_len];omega)]
   show(if 1+inn.length=i then _ else Idl.look _ _:Option IBlk).isSome=true
   by_cases e:1+inn.length=i
   ·rw [if_pos e];rfl
   ·rw [if_neg e]
    obtain⟨j,rfl⟩: ∃j,i=2+inn.length+j:=⟨i - (inn.length+2),by omega⟩
    have:=look_fam (sz:=1) (e:=eI) (k:=2+inn.length) (r:= []) (xs:=cur) (i:=j) (by omega)
    rw [List.append_nil] at this
    rw [this];rfl
theorem νF_pfW {inn:List (List (Int × Int))} {cur:List (Nat × List Int)}:rnL (νF inn.length) (pfW inn cur)=(4, .arr 1 inn.length (refsR 1500000 (freshF inn)))::(enumB 1500000 (famB 2 eII (freshF inn))++(5, .arr 1 cur.length (refsR 1000 cur))::enumB 1000 (famB 1 eI cur)):=by
 have h1:νF inn.length (1+inn.length)=5:=by unfold νF;rw [if_neg (by omega),if_neg (by omega),if_pos (by omega)]
 have eL1:rnL (νF inn.length) (enumB 1 (famB 2 eII (freshF inn)))=enumB 1500000 (famB 2 eII (freshF inn)):=rnL_fam fun i hi=>by
  rw [freshF_len] at hi
  unfold νF;rw [if_neg (by omega),if_pos (by omega)];omega
 have eR1:rnRw (νF inn.length) (refsR 1 (freshF inn))=refsR 1500000 (freshF inn):=rnRw_refsR fun i hi=>by
  rw [freshF_len] at hi
  unfold νF;rw [if_neg (by omega),if_pos (by omega)];omega
 have eL2:rnL (νF inn.length) (enumB (2+inn.length) (famB 1 eI cur))=enumB 1000 (famB 1 eI cur):=rnL_fam fun i hi=>by
  unfold νF;rw [if_neg (by omega),if_neg (by omega),if_neg (by omega)];omega
 have eR2:rnRw (νF inn.length) (refsR (2+inn.length) cur)=refsR 1000 cur:=rnRw_refsR fun i hi=>by
  unfold νF;rw [if_neg (by omega),if_neg (by omega),if_neg (by omega)];omega
 have app: ∀A B:List (Nat × IBlk),rnL (νF inn.length) (A++B)=rnL (νF inn.length) A++rnL (νF inn.length) B:=fun A B=>List.map_append
 show(_,IBlk.arr 1 _ (rnRw _ _))::rnL _ (_++_)=_
 rw [eR1,app,eL1]
 show _::(_++(_,IBlk.arr 1 _ (rnRw _ _))::rnL _ _)=_
 rw [eR2,eL2,h1]
 rfl
theorem PickFF_blk (s:Sc) (h:Hs) (k:Int) (n j:Nat) (x:Nd) (st:St) (hn:h.node=n) (hj:h.state=j) (hx:s.T[n]? =some x) (hq:x.states[j]? =some st) (hg:gHs h) (hl:s.ls.length≤1000000)
  (hp: ∀p∈st.picks,p.2.length≤1000000∧ ∀y∈p.2,(h.node,y.1)∈s.ls) (ho:h.out.length=(outs h.node 0 s.ls).length) (h0:0≤h.steps∧h.steps≤2147483647)
  (h1:st.mode=1) (h2:0≤k) {p:Int × List (Int × Int)} (h3:st.picks[k.toNat]? =some p) {cur':List (Nat × List Int)} {sent':List (Int × Int × Int)} (hgo:pkGoF s.ls h.node p.2 (freshF h.out) []=some (cur',sent')) (hcl':cur'.length=h.out.length) {c:Nat} (hc:c=2+h.inn.length+h.out.length):
  PG Tryz.prog 19 [lApp s,lHs h,sci .i64 k] [] c (.tup [.agg [sci .i64 h.node,sci .i64 p.1,sci .i64 (h.steps+1), .ref 0 h.inn.length 0 h.inn.length, .ref (1+h.inn.length) h.out.length 0 h.out.length],lSt3 sent',sci .i64 0]) (pfW h.inn cur'):=by
 obtain⟨N,ls,T,ff,room,acts⟩:=s
 obtain⟨node,state,steps,inn,out⟩:=h
 obtain⟨b2,b3,b4,b5⟩:=id hg
 simp only at hn hj hx hl ho h0 b2 b3 b4 b5 hp hgo hcl' hc ⊢
 subst hn hj
 have hPk:=Picked_spec T n j x st hx hq k fun p hp'=>(hp p hp').1
 refine pg_of 200 (fn:=Tryz.f19) Tryz.func19 rfl (by simp [Tryz.ntmps19]) 0 rfl (by((try refine zW ?_);(try with_reducible exact True.intro))) (by((try refine zW ?_);(try with_reducible exact True.intro))) (pfW_low _ _ (by omega) rfl) (pfW_has _ _ (by omega)) (by((try refine zW ?_);(try with_reducible exact True.intro));omega) fun hs=>?_
 ((try refine zW ?_);(try with_reducible exact True.intro))
 (refine at_call 200 ?_;(refine zW ?_;try with_reducible exact True.intro);refine callA_of (Mode_spec T n j x st hx hq) zB ?_;((try refine zW ?_);(try with_reducible exact True.intro)))
 (try simp (maxSteps:=2000000) (disch:=omega) only [go_sem,simprocAttr,zD,zE,h1])
 have h2': ¬k < 0:=by omega
 rw [if_neg h2',h3] at hPk
 obtain⟨hpl,hpm⟩:=hp p (List.mem_of_getElem? h3)
 obtain⟨nxt,sends⟩:=p
 simp only at hpl hpm hPk hgo ⊢
 (refine at_call 200 ?_;(refine zW ?_;try with_reducible exact True.intro);refine callA_of (hPk) zB ?_;((try refine zW ?_);(try with_reducible exact True.intro)))
 ((try refine zO ?_);(try with_reducible exact True.intro))
 have hown:PG Tryz.prog 62 [lHs ⟨n,j,steps,inn,out⟩] [] (2+inn.length+out.length) (.agg [sci .i64 n,sci .i64 j,sci .i64 steps, .ref 0 inn.length 0 inn.length, .ref (1+inn.length) out.length 0 out.length]) (ffW 0 inn out):=hownFF_blk ⟨n,j,steps,inn,out⟩ hg rfl
 have hνW:=νF_ffW (inn:=inn) (out:=out)
 have hνP:=νF_pfW (inn:=inn) (cur:=cur')
 have hν0:νF inn.length 0=4:=rfl
 have hν1:νF inn.length (1+inn.length)=5:=by unfold νF;rw [if_neg (by omega),if_neg (by omega),if_pos rfl]
 generalize ffW 0 inn out=W0 at hown hνW
 have hνi: ∀i j,i < 2+inn.length+out.length→j < 2+inn.length+out.length→νF inn.length i=νF inn.length j→i=j:=fun i j hi hj e=>νF_inj b2 b3 hi hj e
 have hνb: ∀i,i < 2+inn.length+out.length→4≤νF inn.length i∧νF inn.length i < 3000000:=fun i hi=>νF_bd b2 b3 hi
 generalize νF inn.length=ν at *
 refine at_gN 200 ν 3000000 hown hνi hνb (by omega) ?_
 have eF:=freshF_len out
 have eFi:=freshF_len inn
 rw [hνW]
 (try simp (maxSteps:=2000000) (disch:=omega) only [go_sem,simprocAttr,zD,zE,hν0,hν1,look_famo,eF,eFi])
 refine walk_own 12 3 trivial rfl (.inr rfl) ?_
 clear hPk hνW
 refine walk_floop 0 200 (fun i:Nat × List (Nat × List Int) × Nat × List (Int × Int × Int)=>i.1≤sends.length∧i.2.1.length=out.length∧i.2.2.2.length=i.1∧pkGoF ls n (sends.drop i.1) i.2.1 i.2.2.2=some (cur',sent'))
  (fun i=>⟨108, [(3, .ptr 0 0 0 0),(4, .ptr 1 0 0 0),(6, .ptr 2 0 0 0),(9, .ptr 3 0 0 0),(11, .ptr 3000000 0 0 0),(12, .ref 3000001 i.2.2.1 0 i.2.2.2.length),(43,lII sends),(44,sci .i64 sends.length),(45,sci .i64 i.1)], [],3000002,
    (3000001, .arr 3 i.2.2.1 (ir eIII i.2.2.2))::(3000000, .arr 5 0 [[sci .i64 n,sci .i64 j,sci .i64 steps, .ref 4 inn.length 0 inn.length, .ref 5 out.length 0 out.length]])::(5, .arr 1 out.length (refsR 1000 i.2.1))::(4, .arr 1 inn.length (refsR 1500000 (freshF inn)))::(3, .arr 2 0 [[sci .i64 nxt,lII sends]])::
    (2, .arr 5 0 [[sci .i64 0,sci .i64 0,sci .i64 0,nil0,nil0]])::(1, .arr 5 0 [[sci .i64 n,sci .i64 j,sci .i64 steps,lMs inn,lLs out]])::(0, .arr 4 0 [[sci .i64 N,lII ls, .p (.imm 2 (pr eNd T)),scb ff]])::(enumB 1000 (famB 1 eI i.2.1)++enumB 1500000 (famB 2 eII (freshF inn)))⟩)
  (fun i=>sends.length - i.1) (0,freshF out,0, []) [] ?_ ?_ ?_
 ·exact⟨by simp,eF,rfl,hgo⟩
 ·constructor
  case blks=>
   (try simp (maxSteps:=2000000) (disch:=omega) only [go_sem,simprocAttr,zD,zE,look_famo,eF,eFi])
   refine fblksIn_app (fblksIn_famc (.inl rfl) fun j hj=>?_) (fblksIn_famc (.inl rfl) fun j hj=>?_)
   ·have hj':=hj
    rw [eF] at hj'
    have e0: ¬3000001=1000+j:=by omega
    have e1: ¬3000000=1000+j:=by omega
    have e2: ¬5=1000+j:=by omega
    have e3: ¬4=1000+j:=by omega
    have e4: ¬3=1000+j:=by omega
    have e5: ¬2=1000+j:=by omega
    have e6: ¬1=1000+j:=by omega
    have e7: ¬0=1000+j:=by omega
    (try simp (maxSteps:=2000000) (disch:=omega) only [go_sem,simprocAttr,zD,zE,e0,e1,e2,e3,e4,e5,e6,e7,look_famo,eFi,look_fam hj])
   ·have hj':=hj
    rw [eFi] at hj'
    have e0: ¬3000001=1500000+j:=by omega
    have e1: ¬3000000=1500000+j:=by omega
    have e2: ¬5=1500000+j:=by omega
    have e3: ¬4=1500000+j:=by omega
    have e4: ¬3=1500000+j:=by omega
    have e5: ¬2=1500000+j:=by omega
    have e6: ¬1=1500000+j:=by omega
    have e7: ¬0=1500000+j:=by omega
    (try simp (maxSteps:=2000000) (disch:=omega) only [go_sem,simprocAttr,zD,zE,e0,e1,e2,e3,e4,e5,e6,e7,look_fam hj])
  all_goals(try simp (maxSteps:=2000000) (disch:=omega) only [go_sem,simprocAttr,zD,zE,Int.natCast_zero])
 ·rintro⟨i,cur,gs,sent⟩ ⟨i1,i2,i4,i3⟩
  simp only at i1 i2 i4 i3
  have hrl:(refsR 1000 cur).length=cur.length:=refsR_len
  by_cases li:i < sends.length
  ·have hm:=hpm _ (List.getElem_mem li)
   rw [List.drop_eq_getElem_cons li,pkGoF] at i3
   generalize hz:sends[i]=z at *
   obtain⟨to,lt⟩:=z
   simp only at hm i3
   obtain⟨q,hq1,hq2⟩:=findOut hm
   generalize hf:findL n to 0 ls=f at *
   rw [hq1,Int.toNat_natCast] at i3
   have lq:q < cur.length:=by omega
   have hcs: ∀g:Nat,∀v:List Int,(cur.set q (g,v)).length=cur.length:=fun g v=>by rw [List.length_set]
   rw [List.getElem?_eq_getElem lq] at i3
   simp only at i3
   have hrg:(refsR 1000 cur)[q]? =some [.ref (1000+q) cur[q].1 0 cur[q].2.length]:=refsR_get lq
   have hrs: ∀x:Nat × List Int,(refsR 1000 cur).set q [.ref (1000+q) x.1 0 x.2.length]=refsR 1000 (cur.set q x):=fun x=>refsR_set lq
   have hlk: ∀r,Idl.look (enumB 1000 (famB 1 eI cur)++r) (1000+q)=some (.arr 1 cur[q].1 (ir eI cur[q].2)):=fun r=>look_fam lq
   generalize ho2:cur[q]=o at *
   obtain⟨go,o⟩:=o
   simp only at i3 hrg hlk
   by_cases h500:500≤o.length
   ·rw [if_pos h500] at i3;cases i3
   ·rw [if_neg h500] at i3
    have hset:(refsR 1000 cur).set q [.ref (1000+q) (go+1) 0 (o.length+1)]=refsR 1000 (cur.set q (go+1,o++ [lt])):=by
     have:=hrs (go+1,o++ [lt])
     rwa [show(go+1,o++ [lt]).2.length=o.length+1 by simp] at this
    have hgs:(refsR 1000 (cur.set q (go+1,o++ [lt])))[q]? =some [.ref (1000+q) (go+1) 0 (o.length+1)]:=by
     have:=refsR_get (xs:=cur.set q (go+1,o++ [lt])) (k:=1000) (i:=q) (by rw [List.length_set];exact lq)
     simpa using this
    ((try refine zW ?_);(try with_reducible exact True.intro))
    (try simp (maxSteps:=2000000) (disch:=omega) only [go_sem,simprocAttr,zD,zE,eII,hz])
    (refine at_call 200 ?_;(refine zW ?_;try with_reducible exact True.intro);refine callA_of (Find_spec N n to ls hl) zB ?_;((try refine zW ?_);(try with_reducible exact True.intro)))
    (try simp (maxSteps:=2000000) (disch:=omega) only [go_sem,simprocAttr,zD,zE,hf])
    (refine at_call 200 ?_;(refine zW ?_;try with_reducible exact True.intro);refine callA_of (Out_spec N n ls hl) zB ?_;((try refine zW ?_);(try with_reducible exact True.intro)))
    ((try refine zO ?_);(try with_reducible exact True.intro))
    (refine at_call 200 ?_;(refine zW ?_;try with_reducible exact True.intro);refine callA_of (Index_spec _ _) zB ?_;((try refine zW ?_);(try with_reducible exact True.intro)))
    (try simp (maxSteps:=2000000) (disch:=omega) only [go_sem,simprocAttr,zD,zE,hq1,hrg])
    (refine walk_trim [3,4,6,9,11,12,14,15,16,40,43,44,45] trivial zL ?_;(refine zW ?_;try with_reducible exact True.intro);refine irun_walk (id:=15) (n:=200) [none,none,none,none,none,none,none,none,none,none,some [0,1,2,3,4,5,6,7],some [0,1,2],none,some []] mixed (by kernel_rfl) ?_)
    have hD:ddp (enumB 1000 (famB 1 eI cur)++enumB 1500000 (famB 2 eII (freshF inn)))=enumB 1000 (famB 1 eI cur)++enumB 1500000 (famB 2 eII (freshF inn)):=ddp_two (by rw [famB_len];omega)
    have hF: ∀b,b < 1000∨3000000≤b→List.filter (fun q:Nat × IBlk=>q.fst != b) (enumB 1000 (famB 1 eI cur)++enumB 1500000 (famB 2 eII (freshF inn)))=enumB 1000 (famB 1 eI cur)++enumB 1500000 (famB 2 eII (freshF inn)):=fun b hb=>filter_two (by rw [famB_len];omega) (by rw [famB_len,eFi];omega)
    (try simp (maxSteps:=2000000) (disch:=omega) only [go_sem,simprocAttr,zD,zE,hrg,hlk,hset,hD,hF])
    refine⟨by omega,?_⟩
    generalize hcur:cur.set q (go+1,o++ [lt])=cur2 at *
    have hcl:cur2.length=cur.length:=by rw [←hcur,List.length_set]
    refine walk_fcut 200 [] ⟨108, [(3, .ptr 0 0 0 0),(4, .ptr 1 0 0 0),(6, .ptr 2 0 0 0),(9, .ptr 3 0 0 0),(11, .ptr 3000000 0 0 0),(12, .ref 3000001 gs 0 sent.length),(14, .ptr 3000002 0 0 0),(15,sci .i64 f),(16,sci .i64 q),(43,lII sends),(44,sci .i64 sends.length),(45,sci .i64 i)], [],3000003,
     (3000002, .arr 2 0 [[sci .i64 to,sci .i64 lt]])::(3000001, .arr 3 gs (ir eIII sent))::(3000000, .arr 5 0 [[sci .i64 n,sci .i64 j,sci .i64 steps, .ref 4 inn.length 0 inn.length, .ref 5 out.length 0 out.length]])::(5, .arr 1 out.length (refsR 1000 cur2))::(4, .arr 1 inn.length (refsR 1500000 (freshF inn)))::(3, .arr 2 0 [[sci .i64 nxt,lII sends]])::
    (2, .arr 5 0 [[sci .i64 0,sci .i64 0,sci .i64 0,nil0,nil0]])::(1, .arr 5 0 [[sci .i64 n,sci .i64 j,sci .i64 steps,lMs inn,lLs out]])::(0, .arr 4 0 [[sci .i64 N,lII ls, .p (.imm 2 (pr eNd T)),scb ff]])::(enumB 1000 (famB 1 eI cur2)++enumB 1500000 (famB 2 eII (freshF inn)))⟩ trivial ?_ ?_
    ·have q0: ¬1000+q=3000000:=by omega
     have q1: ¬1000+q=3000001:=by omega
     have q2: ¬1000+q=3000002:=by omega
     have q3: ¬1000+q=3:=by omega
     have q4: ¬1000+q=2:=by omega
     have q5: ¬1000+q=1:=by omega
     have q6: ¬1000+q=0:=by omega
     have q7: ¬1000+q=4:=by omega
     constructor
     case blks=>
      (try simp (maxSteps:=2000000) only [go_sem,simprocAttr,q0,q1,q2,q3,q4,q5,q6,q7])
      rw [←hcur]
      refine fblksIn_app (fblksIn_fams (.inl rfl) ?_ fun j hj hne=>?_) (fblksIn_famc (.inl rfl) fun j hj=>?_)
      ·have: ¬5=1000+q:=by omega
       (try simp (maxSteps:=2000000) only [go_sem,simprocAttr,this])
      ·have f1: ¬q=j:=fun e=>hne e.symm
       have f2: ¬1000+q=1000+j:=by omega
       have e0: ¬3000002=1000+j:=by omega
       have e1: ¬3000001=1000+j:=by omega
       have e2: ¬3000000=1000+j:=by omega
       have e3: ¬5=1000+j:=by omega
       have e4: ¬4=1000+j:=by omega
       have e5: ¬3=1000+j:=by omega
       have e6: ¬2=1000+j:=by omega
       have e7: ¬1=1000+j:=by omega
       have e8: ¬0=1000+j:=by omega
       (try simp (maxSteps:=2000000) only [go_sem,simprocAttr,f1,f2,e0,e1,e2,e3,e4,e5,e6,e7,e8,look_fam hj])
      ·have hj':=hj
       rw [eFi] at hj'
       have f2: ¬1000+q=1500000+j:=by omega
       have e0: ¬3000002=1500000+j:=by omega
       have e1: ¬3000001=1500000+j:=by omega
       have e2: ¬3000000=1500000+j:=by omega
       have e3: ¬5=1500000+j:=by omega
       have e4: ¬4=1500000+j:=by omega
       have e5: ¬3=1500000+j:=by omega
       have e6: ¬2=1500000+j:=by omega
       have e7: ¬1=1500000+j:=by omega
       have e8: ¬0=1500000+j:=by omega
       have hk:=look_fam (sz:=2) (e:=eII) (k:=1500000) (r:= []) hj
       rw [List.append_nil] at hk
       (try simp (maxSteps:=2000000) (disch:=omega) only [go_sem,simprocAttr,zD,zE,f2,e0,e1,e2,e3,e4,e5,e6,e7,e8,look_famo,hk])
     all_goals((try refine zW ?_);(try with_reducible exact True.intro))
    clear hset hrg hlk hrs
    have hD:ddp (enumB 1000 (famB 1 eI cur2)++enumB 1500000 (famB 2 eII (freshF inn)))=enumB 1000 (famB 1 eI cur2)++enumB 1500000 (famB 2 eII (freshF inn)):=ddp_two (by rw [famB_len];omega)
    have hF: ∀b,b < 1000∨3000000≤b→List.filter (fun q:Nat × IBlk=>q.fst != b) (enumB 1000 (famB 1 eI cur2)++enumB 1500000 (famB 2 eII (freshF inn)))=enumB 1000 (famB 1 eI cur2)++enumB 1500000 (famB 2 eII (freshF inn)):=fun b hb=>filter_two (by rw [famB_len];omega) (by rw [famB_len,eFi];omega)
    ((try refine zW ?_);(try with_reducible exact True.intro))
    (refine walk_trim [3,4,6,9,11,12,14,15,16,40,43,44,45] trivial zL ?_;(refine zW ?_;try with_reducible exact True.intro);refine irun_walk (id:=16) (n:=200) [none,none,none,none,none,none,none,none,none,none,none,none,some [0],some [],none] mixed (by kernel_rfl) ?_)
    (try simp (maxSteps:=2000000) (disch:=omega) only [go_sem,simprocAttr,zD,zE,hgs,hD,hF])
    refine⟨(i+1,cur2,gs+1,sent++ [(f,(o.length:Int)+1,lt)]), [],⟨li,by simp only;omega,by simp only [List.length_append,List.length_cons,List.length_nil];omega,i3⟩,by simp only;omega,?_⟩
    constructor
    case blks=>
     (try simp (maxSteps:=2000000) only [go_sem,simprocAttr,ir_snoc,eIII,List.map_cons,List.map_nil])
     refine⟨rowsBel_refsR (by omega),rowsBel_refsR (by omega),fblksIn_app (fblksIn_famc (.inr (by show 1000+cur2.length≤3000002;omega)) fun j hj=>?_) (fblksIn_famc (.inr (by rw [eFi];omega)) fun j hj=>?_)⟩
     ·
      have e0: ¬3000002=1000+j:=by omega
      have e1: ¬3000001=1000+j:=by omega
      have e2: ¬3000000=1000+j:=by omega
      have e3: ¬5=1000+j:=by omega
      have e4: ¬4=1000+j:=by omega
      have e5: ¬3=1000+j:=by omega
      have e6: ¬2=1000+j:=by omega
      have e7: ¬1=1000+j:=by omega
      have e8: ¬0=1000+j:=by omega
      (try simp (maxSteps:=2000000) only [go_sem,simprocAttr,e0,e1,e2,e3,e4,e5,e6,e7,e8,look_fam hj])
     ·have hj':=hj
      rw [eFi] at hj'
      have e0: ¬3000002=1500000+j:=by omega
      have e1: ¬3000001=1500000+j:=by omega
      have e2: ¬3000000=1500000+j:=by omega
      have e3: ¬5=1500000+j:=by omega
      have e4: ¬4=1500000+j:=by omega
      have e5: ¬3=1500000+j:=by omega
      have e6: ¬2=1500000+j:=by omega
      have e7: ¬1=1500000+j:=by omega
      have e8: ¬0=1500000+j:=by omega
      have hk:=look_fam (sz:=2) (e:=eII) (k:=1500000) (r:= []) hj
      rw [List.append_nil] at hk
      (try simp (maxSteps:=2000000) (disch:=omega) only [go_sem,simprocAttr,zD,zE,e0,e1,e2,e3,e4,e5,e6,e7,e8,look_famo,hk])
    all_goals(try simp (maxSteps:=2000000) (disch:=omega) only [go_sem,simprocAttr,zD,zE,ir_snoc])
  ·obtain rfl:i=sends.length:=by omega
   rw [List.drop_length,pkGoF] at i3
   cases i3
   ((try refine zO ?_);(try with_reducible exact True.intro))
   rw [vc_zero]
   refine walk_fcut 200 [3000001] ⟨108, [(3, .ptr 0 0 0 0),(4, .ptr 1 0 0 0),(6, .ptr 2 0 0 0),(9, .ptr 3 0 0 0),(11, .ptr 3000000 0 0 0),(12,lSt3 sent')], [],3000002,
    (3000000, .arr 5 0 [[sci .i64 n,sci .i64 j,sci .i64 steps, .ref 4 inn.length 0 inn.length, .ref 5 out.length 0 out.length]])::(5, .arr 1 out.length (refsR 1000 cur'))::(4, .arr 1 inn.length (refsR 1500000 (freshF inn)))::(3, .arr 2 0 [[sci .i64 nxt,lII sends]])::
    (2, .arr 5 0 [[sci .i64 0,sci .i64 0,sci .i64 0,nil0,nil0]])::(1, .arr 5 0 [[sci .i64 n,sci .i64 j,sci .i64 steps,lMs inn,lLs out]])::(0, .arr 4 0 [[sci .i64 N,lII ls, .p (.imm 2 (pr eNd T)),scb ff]])::(enumB 1000 (famB 1 eI cur')++enumB 1500000 (famB 2 eII (freshF inn)))⟩ trivial ?_ ?_
   ·constructor
    case gone=>
     refine gone_fam (fun b hb=>Nat.zero_le _) fun p hp hb=>?_
     have hb':p.1=3000001:=by simpa using hb
     simp only [List.mem_cons,List.mem_append] at hp
     rcases hp with rfl | rfl | rfl | rfl | rfl | rfl | rfl | hp | hp
     all_goals first | (simp only at hb';omega) | (obtain⟨q,hq,e,_⟩:=enumB_mem hp;rw [famB_len] at hq;omega)
    case blks=>
     (try simp (maxSteps:=2000000) (disch:=omega) only [go_sem,simprocAttr,zD,zE,look_famo,eFi])
     refine fblksIn_app (fblksIn_famc (.inl rfl) fun j hj=>?_) (fblksIn_famc (.inl rfl) fun j hj=>?_)
     ·
      have e0: ¬3000001=1000+j:=by omega
      have e1: ¬3000000=1000+j:=by omega
      have e2: ¬5=1000+j:=by omega
      have e3: ¬4=1000+j:=by omega
      have e4: ¬3=1000+j:=by omega
      have e5: ¬2=1000+j:=by omega
      have e6: ¬1=1000+j:=by omega
      have e7: ¬0=1000+j:=by omega
      (try simp (maxSteps:=2000000) only [go_sem,simprocAttr,e0,e1,e2,e3,e4,e5,e6,e7,look_fam hj])
     ·have hj':=hj
      rw [eFi] at hj'
      have e0: ¬3000001=1500000+j:=by omega
      have e1: ¬3000000=1500000+j:=by omega
      have e2: ¬5=1500000+j:=by omega
      have e3: ¬4=1500000+j:=by omega
      have e4: ¬3=1500000+j:=by omega
      have e5: ¬2=1500000+j:=by omega
      have e6: ¬1=1500000+j:=by omega
      have e7: ¬0=1500000+j:=by omega
      have hk:=look_fam (sz:=2) (e:=eII) (k:=1500000) (r:= []) hj
      rw [List.append_nil] at hk
      (try simp (maxSteps:=2000000) (disch:=omega) only [go_sem,simprocAttr,zD,zE,e0,e1,e2,e3,e4,e5,e6,e7,look_famo,hk])
    all_goals((try refine zO ?_);(try with_reducible exact True.intro))
   ((try refine zO ?_);(try with_reducible exact True.intro))
   have hcl2:cur'.length=out.length:=hcl'
   refine EndG_nu ν (.inr rfl) (fun i j hi hj e=>hνi i j (by omega) (by omega) e) (by(try simp (maxSteps:=2000000) only [go_sem,simprocAttr,hν0,hν1])) (by((try refine zW ?_);(try with_reducible exact True.intro));omega) (pfW_low _ _ (by omega) (Nat.zero_add _)) ?_
   rw [hνP,hcl2]
   refine⟨?_,allSeen_app.2 ⟨allSeen_famc fun j hj=>?_,?_,allSeen_famc fun j hj=>?_⟩⟩
   ·((try refine zO ?_);(try with_reducible exact True.intro))
   ·have hj':=hj
    rw [eFi] at hj'
    have e0: ¬3000001=1500000+j:=by omega
    have e1: ¬3000000=1500000+j:=by omega
    have e2: ¬5=1500000+j:=by omega
    have e3: ¬4=1500000+j:=by omega
    have e4: ¬3=1500000+j:=by omega
    have e5: ¬2=1500000+j:=by omega
    have e6: ¬1=1500000+j:=by omega
    have e7: ¬0=1500000+j:=by omega
    have hk:=look_fam (sz:=2) (e:=eII) (k:=1500000) (r:= []) hj
    rw [List.append_nil] at hk
    (try simp (maxSteps:=2000000) (disch:=omega) only [go_sem,simprocAttr,zD,zE,e0,e1,e2,e3,e4,e5,e6,e7,look_famo,hk])
   ·((try refine zO ?_);(try with_reducible exact True.intro))
   ·
    have e0: ¬3000001=1000+j:=by omega
    have e1: ¬3000000=1000+j:=by omega
    have e2: ¬5=1000+j:=by omega
    have e3: ¬4=1000+j:=by omega
    have e4: ¬3=1000+j:=by omega
    have e5: ¬2=1000+j:=by omega
    have e6: ¬1=1000+j:=by omega
    have e7: ¬0=1000+j:=by omega
    (try simp (maxSteps:=2000000) only [go_sem,simprocAttr,e0,e1,e2,e3,e4,e5,e6,e7,look_fam hj])
end Go.Proofs.HO
