/- Facts that the proofs of this claim lean on. -/
import Derived.Test.YtfhhdgkhajkapaaGreatNWr
import Derived.Test.YtfhhdgkhajkapaaGreatNPJ
import Derived.Test.YtfhhdgkhajkapaaGreatGN
set_option linter.unusedSimpArgs false
set_option linter.unusedVariables false
/- The law NodeReplies's closed facts, one by one. -/
namespace Go.Proofs.YtfhhdgkhajkapaaGreat
open Go Go.Idl Go.Proofs Go.Proofs.Tryz
set_option maxRecDepth 100000
open Go.ChangeShapes Go.WideShapes Go.ChangeAt Go.RowKit
theorem qag {a b:Bool} (ha:a=true) (hb:b=true):(a && b)=true:=by rw [ha,hb];rfl
theorem qiz:Rows.nodeRepliesRow.wf (OpenSpec.ofChange Rows.nodeRepliesSpec)=true:=by kernel_rfl
theorem qiA:laidOutB Tryz.checked.prog=true:=by kernel_rfl
theorem qiB:mapsRowed Tryz.checked.prog=true:=by kernel_rfl
theorem qiC:Tryz.f5.params.all (Tryz.checked.prog.readableRec ·)=true:=by kernel_rfl
theorem qiD:namedTie Tryz.checked.prog Rows.nodeRepliesRow.named Rows.nodeRepliesSpec.vars=true:=by kernel_rfl
theorem qiE:(Rows.nodeRepliesRow.stops== [])=true:=by kernel_rfl
theorem qiF:(Tryz.checked.prog.stops== [])=true:=by kernel_rfl
theorem qiG:(Rows.nodeRepliesRow.knobs== [])=true:=by kernel_rfl
theorem qiH:(Tryz.checked.prog.stopKnobs== [])=true:=by kernel_rfl
theorem qiI:(Rows.nodeRepliesRow.inPlace==Tryz.checked.prog.inPlace 5)=true:=by kernel_rfl
theorem qhd:(Rows.nodeRepliesRow.unfollowed==Tryz.checked.prog.unfollowed 5)=true:=by kernel_rfl
theorem qhe:(Rows.nodeRepliesRow.recurses==Tryz.checked.prog.recurses 5)=true:=by kernel_rfl
theorem qhf:(Rows.nodeRepliesRow.named==Tryz.checked.prog.varsNamed 5)=true:=by kernel_rfl
theorem qhg:(Rows.nodeRepliesRow.maps==(Tryz.f5.params.toList++Rows.nodeRepliesSpec.plain.varTypes Tryz.checked.prog).any (Tryz.checked.prog.mapsRec ·))=true:=by kernel_rfl
theorem qhh:(Rows.nodeRepliesRow.ifaces==(Tryz.f5.params.toList++Rows.nodeRepliesSpec.plain.varTypes Tryz.checked.prog).any (Tryz.checked.prog.ifacesRec ·))=true:=by kernel_rfl
theorem qhi:(Rows.nodeRepliesRow.mapsOut==Tryz.checked.prog.mapsAmong Tryz.f5.resultTypes.toList)=true:=by kernel_rfl
theorem qhj:(Rows.nodeRepliesRow.loops==(Tryz.f5.params.toList++Rows.nodeRepliesSpec.plain.varTypes Tryz.checked.prog).any (Tryz.checked.prog.loopsFrom ·))=true:=by kernel_rfl
theorem qhk:(Rows.nodeRepliesRow.wideKeys==(Tryz.f5.params.toList++Rows.nodeRepliesSpec.plain.varTypes Tryz.checked.prog++Tryz.f5.resultTypes.toList).any (Tryz.checked.prog.wideKeysFrom ·))=true:=by kernel_rfl
theorem qhl:Rows.nodeRepliesSpec.vars.all (Tryz.checked.prog.varReadable ·)=true:=by kernel_rfl
theorem qhm:Tryz.f5.resultTypes.all (fun t=>Tryz.checked.prog.readableRec t && decide (t < Tryz.checked.prog.types.size))=true:=by kernel_rfl
theorem qhn:(Rows.nodeRepliesRow.ifacesOut==Tryz.f5.resultTypes.toList.any (Tryz.checked.prog.ifacesRec ·))=true:=by kernel_rfl
theorem qho:(Rows.nodeRepliesRow.loopsOut==Tryz.f5.resultTypes.toList.any (Tryz.checked.prog.loopsFrom ·))=true:=by kernel_rfl
theorem qhp:(Rows.nodeRepliesRow.plainKeys==Tryz.checked.prog.plainKeys)=true:=by kernel_rfl
theorem qhq:Rows.nodeRepliesRow.shortTexts.isNone=true:=by kernel_rfl
theorem qhr:Tryz.checked.prog.stopsHeard=true:=by kernel_rfl
theorem qhs:Tryz.checked.prog.mayEnter=true:=by kernel_rfl
theorem qht:(Rows.nodeRepliesRow.lifted==Tryz.checked.prog.liftsFinal)=true:=by kernel_rfl
theorem qhu:(Tryz.checked.prog.make==some Rows.nodeRepliesRow.make)=true:=by kernel_rfl
theorem qhv:(Rows.nodeRepliesRow.kinds==(if Rows.nodeRepliesRow.domain.isEmpty then [] else Tryz.f5.params.toList.map fun t=>match Tryz.checked.prog.underlying t with | some (.int k)=>some k | _=>none))=true:=by kernel_rfl
theorem qhw:(Rows.nodeRepliesRow.pinned==Rows.nodeRepliesRow.pinnedBy)=true:=by kernel_rfl
theorem qhx:(Rows.nodeRepliesRow.veiled==(Tryz.f5.params.toList++Rows.nodeRepliesSpec.plain.varTypes Tryz.checked.prog++Tryz.f5.resultTypes.toList).any (Tryz.checked.prog.veiledRec ·))=true:=by kernel_rfl
theorem qhy:Rows.nodeRepliesRow.veiledFits Tryz.checked.prog Tryz.f5.params.toList (Tryz.f5.params.toList++Rows.nodeRepliesSpec.plain.varTypes Tryz.checked.prog++Tryz.f5.resultTypes.toList)=true:=by kernel_rfl
theorem qgA:joinedFacts Tryz.checked.prog 5 Tryz.f5 Rows.nodeRepliesSpec Rows.nodeRepliesRow=true:=qag (qag (qag (qag (qag (qag (qag (qag (qag (qag (qag (qag (qag (qag (qag (qag (qag (qag (qag (qag (qag (qag (qag (qag (qag (qag (qag (qag (qag (qag (qag (qiz) qiA) qiB) qiC) qiD) qiE) qiF) qiG) qiH) qiI) qhd) qhe) qhf) qhg) qhh) qhi) qhj) qhk) qhl) qhm) qhn) qho) qhp) qhq) qhr) qhs) qht) qhu) qhv) qhw) qhx) qhy
end Go.Proofs.YtfhhdgkhajkapaaGreat
/- All steps of a list, in both systems. -/
namespace Go.Proofs.NO
open Go Go.Idl Go.Proofs Go.GP Go.Proofs.Tryz
theorem ql1 {ls:List (Int × Int)} {ff:Bool} {t:Td} (h:(qaw ls ff t).e=0): ∃tail,(qaw ls ff t).out=t.out++tail∧(∀o∈tail,o.f.kind=5)∧(qaw ls ff t).x.h=t.x.h∧tail.length≤1:=by
 unfold qaw at h ⊢
 split
 ·rename_i c
  rw [if_pos c] at h
  split
  ·rename_i c2;rw [if_pos c2] at h;exact absurd h c2
  ·split
   ·exact⟨[],by simp,by simp,rfl,by simp⟩
   ·exact⟨_,rfl,fun o ho=>by rw [List.mem_singleton.1 ho],rfl,Nat.le_refl 1⟩
 ·exact⟨[],by simp,by simp,rfl,by simp⟩
theorem qm6 {ls:List (Int × Int)} {ff:Bool} {st:St} {x:No} {link:Int} {f:Fm} (hk:f.kind=1∨f.kind=2) (h:(hearN ls ff st x link f).e=0):
  0≤indexL link 0 (ins x.h.node 0 ls)∧(hearN ls ff st x link f).x.h=x.h∧ ∃tail,(∀o∈tail,o.f.kind=5)∧tail.length≤1∧
   ((hearN ls ff st x link f).out=⟨qaz ls link,ctl 4 f.epoch⟩::tail∨
    (hearN ls ff st x link f).out=⟨qaz ls link,ctl 3 f.epoch⟩::((outs x.h.node 0 ls).map (fun l=>(⟨l,ctl f.kind f.epoch⟩:Ou))++tail)):=by
 unfold hearN at h ⊢
 split
 ·rename_i c;rw [if_pos c] at h;cases h
 rename_i c
 have hp:0≤indexL link 0 (ins x.h.node 0 ls):=by
  rcases Int.lt_or_le (indexL link 0 (ins x.h.node 0 ls)) 0 with q | q
  ·exact absurd (.inl q) c
  ·exact q
 rw [if_neg c] at h
 have k0: ¬f.kind=0:=by omega
 simp only [if_neg k0,if_pos hk] at h ⊢
 refine⟨hp,?_⟩
 unfold floodedN at h ⊢
 split
 ·rename_i c1;rw [if_pos c1] at h;cases h
 rename_i c1
 have c1:f.kind=kindN ff:=Classical.byContradiction c1
 rw [if_neg (fun q=>q c1)] at h
 split
 ·rename_i c2;rw [if_pos c2] at h;cases h
 rename_i c2
 rw [if_neg c2] at h
 split
 ·rename_i c3
  rw [if_pos c3] at h
  obtain⟨tail,t1,t2,t3,t4⟩:=ql1 h
  exact⟨t3,tail,t2,t4, .inl (by rw [t1];rfl)⟩
 ·rename_i c3
  rw [if_neg c3] at h
  obtain⟨tail,t1,t2,t3,t4⟩:=ql1 h
  exact⟨t3,tail,t2,t4, .inr (by rw [t1,c1];simp [floodN])⟩
theorem qq4 {N:Int} {ls:List (Int × Int)} (h:qcV N ls) {n link:Int} (hi:0≤indexL link 0 (ins n 0 ls)):1≤(outs n 0 ls).length:=by
 obtain⟨k,hk,rfl,hx⟩:=qiQ (qcY.1 hi)
 have h1:=h.2.2.2.1 k _ (List.getElem?_eq_getElem hk)
 have h2:=h1.2.2.2.2
 obtain⟨j,hj,e⟩:=List.getElem_of_mem h2
 have:=qlD (n:=n) (i:=0) hj (by rw [e];exact hx)
 exact List.length_pos_of_mem this
end Go.Proofs.NO
/- A flooded node replies once and floods all its links: the law's walk. -/
namespace Go.Proofs.NO
open Go Go.Idl Go.Proofs Go.GP Go.Proofs.Tryz
set_option maxHeartbeats 20000000
set_option maxRecDepth 100000
def isR (bk ep:Int) (o:Ou):Bool:=(o.f.kind==3 || o.f.kind==4) && o.f.epoch==ep && o.link==bk
def isF (k ep:Int) (o:Ou):Bool:=o.f.kind==k && o.f.epoch==ep
theorem qnu {α:Type} (p:α→Bool) {l:List α} {i:Nat} (h:i < l.length):(l.take (i+1)).countP p=(l.take i).countP p+(if p l[i] then 1 else 0):=by
 rw [List.take_succ_eq_append_getElem h,List.countP_append,List.countP_singleton]
theorem qnt {α:Type} (p:α→Bool) (l:List α) (i:Nat):(l.take i).countP p≤l.length:=Nat.le_trans (List.countP_le_length) (by rw [List.length_take];omega)
structure Sent (bk ep k:Int) (c:Int) (n:Nat) (out:List Ou):Prop where
 len:n+1≤out.length
 head: ∀h:0 < out.length,out[0]=⟨bk,ctl c ep⟩
 each: ∀(i:Nat) (h:i < out.length),(i=0∧out[i]=⟨bk,ctl c ep⟩)∨(out[i].f=ctl k ep)∨out[i].f.kind=5
 rep:out.countP (isR bk ep)=1
 fld:out.countP (isF k ep)=n
theorem qnN {bk ep k c:Int} (hk:k=1∨k=2) (hc:c=3∨c=4) {os:List Int} {tail:List Ou} (ht: ∀o∈tail,o.f.kind=5):
  Sent bk ep k c os.length ((⟨bk,ctl c ep⟩:Ou)::(os.map (fun l=>(⟨l,ctl k ep⟩:Ou))++tail)):=by
 have t1:tail.countP (isR bk ep)=0:=List.countP_eq_zero.2 fun o ho=>by simp [isR,ht o ho]
 have t2:tail.countP (isF k ep)=0:=List.countP_eq_zero.2 fun o ho=>by
  have:=ht o ho
  simp only [isF,this,Bool.and_eq_true,beq_iff_eq,not_and]
  omega
 have m1:(os.map (fun l=>(⟨l,ctl k ep⟩:Ou))).countP (isR bk ep)=0:=List.countP_eq_zero.2 fun o ho=>by
  obtain⟨l, -,rfl⟩:=List.mem_map.1 ho
  rcases hk with rfl | rfl<;>simp [isR,ctl]
 have m2:(os.map (fun l=>(⟨l,ctl k ep⟩:Ou))).countP (isF k ep)=os.length:=by
  refine Eq.trans (List.countP_eq_length.2 fun o ho=>?_) (List.length_map ..)
  obtain⟨l, -,rfl⟩:=List.mem_map.1 ho
  simp [isF,ctl]
 have c1:isR bk ep ⟨bk,ctl c ep⟩=true:=by rcases hc with rfl | rfl<;>simp [isR,ctl]
 have c2:isF k ep ⟨bk,ctl c ep⟩=false:=by rcases hc with rfl | rfl<;>rcases hk with rfl | rfl<;>simp [isF,ctl]
 refine⟨by simp only [List.length_cons,List.length_append,List.length_map];omega,fun _=>rfl,fun i h=>?_,by rw [List.countP_cons,List.countP_append,t1,m1,c1];rfl,by rw [List.countP_cons,List.countP_append,t2,m2,c2];simp⟩
 cases i with
 | zero=>exact .inl ⟨rfl,rfl⟩
 | succ j=>
   refine .inr ?_
   rw [List.getElem_cons_succ]
   rcases List.mem_append.1 (List.getElem_mem (l:=os.map (fun l=>(⟨l,ctl k ep⟩:Ou))++tail) (n:=j) (by simpa using h)) with q | q
   ·obtain⟨l, -,e⟩:=List.mem_map.1 q
    exact .inl (by rw [←e])
   ·exact .inr (ht _ q)
theorem NodeReplies_pure (s0:Sc) (n0:Int) (L:List Op):
  Pure prog 5 [lApp s0,sci .i64 n0,lOps L] (scb true):=by
 obtain⟨k8,kl,ko⟩:=qly s0
 refine pcall0 200 (fn:=Tryz.f5) func5 rfl (by simp [ntmps5]) zB zB fun hs=>?_
 try refine zW ?_
 (refine zG ?_;refine callA_of (qeL s0) zB ?_;try refine zW ?_)
 generalize cutSc s0=s at *
 have hT:=qg4 k8 ko
 try refine zW ?_
 (refine zG ?_;refine callA_of (qeK s k8 ko) zB ?_;try refine zW ?_)
 obtain⟨N,ls,T,ff,room,acts⟩:=s
 simp only at k8 kl ko hT
 (refine zG ?_;refine callA_of (qdN N ls T hT) zB ?_;try refine zW ?_)
 by_cases hH:TabP N ls T
 ·have eH:=qal hH
  (try simp (maxSteps:=2000000) (disch:=omega) only [go_sem,simprocAttr,zD,zE,eH])
  have hN:=hH.1.1
  obtain⟨m,hm⟩: ∃m:Nat,(m:Int)=if n0 < 0∨N≤n0 then 0 else n0:=by
   split
   ·exact⟨0,rfl⟩
   ·exact⟨n0.toNat,by omega⟩
  have hmN:(m:Int) < N:=by rw [hm];split<;>omega
  have hmT:m < T.length:=by have:=hH.2.1;omega
  have hx:=List.getElem?_eq_getElem hmT
  generalize T[m]=nd at hx
  have hnew:=NOk.new (qiU hH hx) rfl
  (refine zG ?_;refine callA_of (qfT N ls T ff n0 m nd kl hm hx) zB ?_;try refine zW ?_)
  generalize newN ⟨m,nd.start,0,List.replicate (ins m 0 ls).length [],List.replicate (outs m 0 ls).length []⟩=x0 at *
  try refine zO ?_
  (refine walk_trim [2,3,7,8,9] trivial zL ?_;((try refine zW ?_);(try with_reducible exact True.intro)))
  refine qac 200 200 (fun i:Nat × No=>i.1≤L.length∧i.1≤40∧NOk N ls T i.1 i.2)
   (fun i=>⟨202, [(2,lOps L),(3, .ptr 0 0 0 0),(7, .ptr 1 0 0 0),(8, .ptr 2 0 0 0),(9,sci .i64 i.1)], [],3, [(2, .arr 28 0 [cNo i.2]),(1, .arr 4 0 [[sci .i64 N, .p (.imm 2 (pr eII ls)), .p (.imm 2 (pr eNd T)),scb ff]]),(0, .arr 4 0 [[sci .i64 N, .p (.imm 2 (pr eII ls)), .p (.imm 2 (pr eNd T)),scb ff]])]⟩) (fun i=>40 - i.1) (0,x0) [] ?_ ?_ ?_
  ·exact⟨Nat.zero_le _,Nat.zero_le _,hnew⟩
  ·constructor<;>(try simp (maxSteps:=2000000) (disch:=omega) only [go_sem,simprocAttr,zD,zE,Int.natCast_zero])
  ·clear hnew hm hmN hmT hx
   rintro⟨i,x⟩ ⟨i1,i2,i3⟩
   simp only at i1 i2 i3
   try refine zW ?_
   by_cases hlt:i < L.length∧i < 40
   ·obtain⟨hl1,hl2⟩:=hlt
    generalize hp:L[i]=p at *
    obtain⟨kind,en,link,f⟩:=p
    have hgp:=qiM f
    have hC:=qeN f
    obtain⟨nn,j,nd',hf⟩:=i3.hf
    have hkt:=((hT.2 nn nd' hf.hx).2 j (stOf T x.h) hf.hq).2.2
    have hwt:(stOf T x.h).waits.length≤1000:=by
     have:=((ko nd' (List.mem_of_getElem? hf.hx)).2 _ (List.mem_of_getElem? hf.hq)).1
     omega
    generalize cutF f=g at *
    have hHr:=qfq N ls T ff x link g i i3 (by omega) (by omega) kl hT hwt hgp
    have hSt:=qei N ls T ff x en i i3 (by omega) (by omega) kl
    have okH:=i3.hear (by omega) (by omega) ff link g
    have okS:=i3.start (by omega) ff en
    have hFl:=qm6 (ls:=ls) (ff:=ff) (st:=stOf T x.h) (x:=x) (link:=link) (f:=g)
    generalize hearN ls ff (stOf T x.h) x link g=d at *
    generalize startN ls ff x en=d2 at *
    obtain⟨y,out,ps,path,e⟩:=d
    obtain⟨y2,out2,ps2,path2,e2⟩:=d2
    simp only at hHr hSt okH okS hFl
    (try simp (maxSteps:=2000000) (disch:=omega) only [go_sem,simprocAttr,zD,zE,eOpN,hp])
    (refine zG ?_;refine callA_of (hC) zB ?_;try refine zW ?_)
    try refine zO ?_
    (refine zM [2,3,7,8,9,10] ?_;refine zI [none,none,none,none,none,none,none,none,some [14,15],none,none,none,none,none,some [0,1,2,3,4,5,6,7,8,9,10,11,12,13,15],some [0,1,2,3,4,5,6,7,8,9,10,11,12,13,14],some [11,12,13],none,some [13],none] ?_)
    (try simp (maxSteps:=2000000) (disch:=omega) only [go_sem,simprocAttr,zD,zE,eOpN,hp])
    (refine zF ?_;refine callA_of (hHr) zB ?_;try refine zW ?_)
    (try simp (maxSteps:=2000000) (disch:=omega) only [go_sem,simprocAttr,zD,zE,eOpN,hp])
    cases ck:(bits .and .i64 kind 3==1) with
    | true=>
      (try simp (maxSteps:=2000000) (disch:=omega) only [go_sem,simprocAttr,zD,zE,ck])
      (refine zM [2,3,7,8,9,10,11,12] ?_;refine zI [none,none,none,none,none,none,none,some [],none,none,none,none,none,some [10,11,12],none] ?_)
      (try simp (maxSteps:=2000000) (disch:=omega) only [go_sem,simprocAttr,zD,zE,eOpN,hp])
      (refine zF ?_;refine callA_of (hSt) zB ?_;try refine zW ?_)
      try refine zO ?_
      by_cases he2:e2=0
      ·subst he2
       have ok:=(okS rfl).mono (u:=i+1) (by omega)
       try refine zO ?_
       refine⟨(i+1,y2), [],⟨hl1,hl2,ok⟩,by simp only;omega,?_⟩
       constructor<;>((try refine zO ?_);(try with_reducible exact True.intro))
      ·have eb:(e2 != 0)=true:=bne_iff_ne.2 he2
       (try simp (maxSteps:=2000000) (disch:=omega) only [go_sem,simprocAttr,zD,zE,eb])
       refine⟨(i+1,x), [],⟨hl1,hl2,i3.mono (by omega)⟩,by simp only;omega,?_⟩
       constructor<;>((try refine zO ?_);(try with_reducible exact True.intro))
    | false=>
      (try simp (maxSteps:=2000000) (disch:=omega) only [go_sem,simprocAttr,zD,zE,ck])
      by_cases he:e=0
      ·subst he
       have ok:=okH rfl
       obtain⟨gk,gep,gm,gps,gin,gnu,gct,gpa⟩:=g
       simp only at hFl
       by_cases hk:gk=1∨gk=2
       ·obtain⟨w1,w2,tail,w3,w5,w4⟩:=hFl hk trivial
        have wo:=qq4 hH.1 w1
        obtain⟨c,n,hc,hs,hn⟩: ∃(c:Int) (n:Nat),((c=3∧n=(outs x.h.node 0 ls).length)∨(c=4∧n=0))∧Sent (qaz ls link) gep gk c n out∧n≤1000000:=by
         have h5:=i3.outs5
         rcases w4 with w4 | w4
         ·exact⟨4,0, .inr ⟨rfl,rfl⟩,by rw [w4];exact qnN (os:= []) hk (.inr rfl) w3,by omega⟩
         ·exact⟨3,_, .inl ⟨rfl,rfl⟩,by rw [w4];exact qnN hk (.inl rfl) w3,by omega⟩
        have sBk:=qmR N ls link kl
        have sOu:=qok N y.h.node ls kl
        rw [←w2] at hc wo
        have q1: ∀i,(out.take i).countP (isR (qaz ls link) gep)≤out.length:=qnt _ _
        have q2: ∀i,(out.take i).countP (isF gk gep)≤out.length:=qnt _ _
        have h5:=i3.outs5
        have lo:out.length≤1000:=by rcases w4 with w4 | w4<;>(rw [w4];simp only [List.length_cons,List.length_append,List.length_map];omega)
        have hs1:=hs.len
        have hs2:=hs.rep
        have hs3:=hs.fld
        have hs4:=hs.each
        have hs5:=hs.head (by omega)
        have ek:(gk != 1 && gk != 2)=false:=by rcases hk with rfl | rfl<;>rfl
        obtain⟨R,hR⟩: ∃R:Nat→Nat,∀i,R i=(out.take i).countP (isR (qaz ls link) gep):=⟨_,fun _=>rfl⟩
        obtain⟨F,hF⟩: ∃F:Nat→Nat,∀i,F i=(out.take i).countP (isF gk gep):=⟨_,fun _=>rfl⟩
        have rS: ∀(i:Nat) (h:i < out.length),R (i+1)=R i+(if isR (qaz ls link) gep out[i] then 1 else 0):=fun i h=>by rw [hR,hR,qnu _ h]
        have fS: ∀(i:Nat) (h:i < out.length),F (i+1)=F i+(if isF gk gep out[i] then 1 else 0):=fun i h=>by rw [hF,hF,qnu _ h]
        have r0:R 0=0:=by rw [hR];rfl
        have f0:F 0=0:=by rw [hF];rfl
        have rN:R out.length=1:=by rw [hR,List.take_length,hs2]
        have fN:F out.length=n:=by rw [hF,List.take_length,hs3]
        have rL: ∀i,R i≤1000:=fun i=>by have:=q1 i;rw [←hR] at this;omega
        have fL: ∀i,F i≤1000:=fun i=>by have:=q2 i;rw [←hF] at this;omega
        clear hR hF q1 q2 hHr hSt okS okH
        obtain⟨y2,ey⟩: ∃y2,y2=y:=⟨_,rfl⟩
        rcases hk with rfl | rfl
        ·try refine zO ?_
         (refine walk_trim [2,3,7,8,9,10,12,15,16,17] trivial zL ?_;((try refine zW ?_);(try with_reducible exact True.intro)))
         refine qac 200 200 (fun k:Nat=>k≤out.length)
          (fun k=>⟨202, [(2,lOps L),(3, .ptr 0 0 0 0),(7, .ptr 1 0 0 0),(8, .ptr 2 0 0 0),(9,sci .i64 i),(10, .ptr 3 0 0 0),(12,lOus out),(15,sci .i64 (R k)),(16,sci .i64 (F k)),(17,sci .i64 k)], [],6, [(2, .arr 28 0 [cNo y]),(3, .arr 9 0 [[sci .i64 1,sci .i64 gep,sci .i64 gm.1,sci .i64 gm.2,lPs gps,sci .i64 gin,sci .i64 gnu,sci .i64 gct,lI gpa]]),(1, .arr 4 0 [[sci .i64 N, .p (.imm 2 (pr eII ls)), .p (.imm 2 (pr eNd T)),scb ff]]),(0, .arr 4 0 [[sci .i64 N, .p (.imm 2 (pr eII ls)), .p (.imm 2 (pr eNd T)),scb ff]])]⟩) (fun k=>out.length - k) (0) [] ?_ ?_ ?_
         ·simp
         ·constructor<;>(try simp (maxSteps:=2000000) (disch:=omega) only [go_sem,simprocAttr,zD,zE,Int.natCast_zero,List.take_of_length_le,List.append_assoc,r0,f0])
         ·rintro k hk
          try refine zW ?_
          by_cases lk:k < out.length
          ·have eR:=rS k lk
           have eF:=fS k lk
           have rLk:=rL k
           have fLk:=fL k
           have hE:=hs4 k lk
           generalize hq:out[k]=o at *
           obtain⟨ol,fk,fe,⟨fm1,fm2⟩,fps,fi,fn,fc,fpa⟩:=o
           rcases hE with ⟨k0,h⟩ | h | h
           ·simp only [ctl,Ou.mk.injEq,Fm.mk.injEq] at h
            obtain⟨h1,h2,h3, -⟩:=h
            have eF':F (k+1)=F k:=by rw [eF,h2];rcases hc with ⟨rfl, -⟩ | ⟨rfl, -⟩<;>simp [isF]
            have eR':R (k+1)=R k+1:=by rw [eR,h1,h2,h3];rcases hc with ⟨rfl, -⟩ | ⟨rfl, -⟩<;>simp [isR]
            rcases hc with ⟨hc, -⟩ | ⟨hc, -⟩
            all_goals
             try refine zO ?_
             (refine zM [2,3,7,8,9,10,12,15,16,17,18] ?_;refine zI [none,none,none,none,none,none,none,none,none,none,none,none,none,none,none,none,none,none,none,none,none,none,none,some [16,17,18,19,20,24,25,26,27,28],none,none,none,none,none,some [16,17,18,19,20],none,none] ?_)
             (try simp (maxSteps:=2000000) (disch:=omega) only [go_sem,simprocAttr,zD,zE,eOu,hq,h1,h2,h3,hc,beq_self_eq_true])
             (refine zF ?_;refine callA_of (qeJ N ls) zB ?_;try refine zW ?_)
             (try simp (maxSteps:=2000000) (disch:=omega) only [go_sem,simprocAttr,zD,zE,eOpN,hp])
             (refine zF ?_;refine callA_of (sBk) zB ?_;try refine zW ?_)
             (try simp (maxSteps:=2000000) (disch:=omega) only [go_sem,simprocAttr,zD,zE,eOu,hq,h1,h2,h3,hc,beq_self_eq_true])
             refine⟨k+1, [],by first | assumption | omega,?_,?_⟩
             ·(try simp only []);omega
             ·constructor<;>(try simp (maxSteps:=2000000) (disch:=omega) only [go_sem,simprocAttr,zD,zE,eR',eF',List.append_assoc])
           ·simp only [ctl,Fm.mk.injEq] at h
            obtain⟨h2,h3, -⟩:=h
            have eF':F (k+1)=F k+1:=by rw [eF,h2,h3];simp [isF]
            have eR':R (k+1)=R k:=by rw [eR,h2];simp [isR]
            try refine zO ?_
            (refine zM [2,3,7,8,9,10,12,15,16,17,18] ?_;refine zI [none,none,none,none,none,none,none,none,none,none,none,none,none,none,none,none,none,none,none,none,none,none,none,some [16,17,18,19,20,24,25,26,27,28],none,none,none,none,none,some [16,17,18,19,20],none,none] ?_)
            (try simp (maxSteps:=2000000) (disch:=omega) only [go_sem,simprocAttr,zD,zE,eOu,hq,h2,h3,beq_self_eq_true])
            refine⟨k+1, [],by first | assumption | omega,?_,?_⟩
            ·(try simp only []);omega
            ·constructor<;>(try simp (maxSteps:=2000000) (disch:=omega) only [go_sem,simprocAttr,zD,zE,eR',eF',List.append_assoc])
           ·simp only at h
            have eF':F (k+1)=F k:=by rw [eF,h];simp [isF]
            have eR':R (k+1)=R k:=by rw [eR,h];simp [isR]
            try refine zO ?_
            (refine zM [2,3,7,8,9,10,12,15,16,17,18] ?_;refine zI [none,none,none,none,none,none,none,none,none,none,none,none,none,none,none,none,none,none,none,none,none,none,none,some [16,17,18,19,20,24,25,26,27,28],none,none,none,none,none,some [16,17,18,19,20],none,none] ?_)
            (try simp (maxSteps:=2000000) (disch:=omega) only [go_sem,simprocAttr,zD,zE,eOu,hq,h])
            refine⟨k+1, [],by first | assumption | omega,?_,?_⟩
            ·(try simp only []);omega
            ·constructor<;>(try simp (maxSteps:=2000000) (disch:=omega) only [go_sem,simprocAttr,zD,zE,eR',eF',List.append_assoc])
          ·obtain rfl:k=out.length:=by omega
           have lz:0 < out.length:=by omega
           have eL:((out.length:Int)==0)=false:=beq_eq_false_iff_ne.2 (by omega)
           rcases hc with ⟨rfl,hn'⟩ | ⟨rfl,hn'⟩
           ·subst hn'
            (try simp (maxSteps:=2000000) (disch:=omega) only [go_sem,simprocAttr,zD,zE,rN,fN,eL,eOu,hs5,ctl])
            (refine zG ?_;refine callA_of (sOu) zB ?_;try refine zW ?_)
            try refine zO ?_
            refine⟨(i+1,y), [],⟨hl1,hl2,ok⟩,by simp only;omega,?_⟩
            constructor<;>((try refine zO ?_);(try with_reducible exact True.intro))
           ·subst hn'
            (try simp (maxSteps:=2000000) (disch:=omega) only [go_sem,simprocAttr,zD,zE,rN,fN,eL,eOu,hs5,ctl])
            refine⟨(i+1,y), [],⟨hl1,hl2,ok⟩,by simp only;omega,?_⟩
            constructor<;>((try refine zO ?_);(try with_reducible exact True.intro))
        ·try refine zO ?_
         (refine walk_trim [2,3,7,8,9,10,12,15,16,17] trivial zL ?_;((try refine zW ?_);(try with_reducible exact True.intro)))
         refine qac 200 200 (fun k:Nat=>k≤out.length)
          (fun k=>⟨202, [(2,lOps L),(3, .ptr 0 0 0 0),(7, .ptr 1 0 0 0),(8, .ptr 2 0 0 0),(9,sci .i64 i),(10, .ptr 3 0 0 0),(12,lOus out),(15,sci .i64 (R k)),(16,sci .i64 (F k)),(17,sci .i64 k)], [],6, [(2, .arr 28 0 [cNo y]),(3, .arr 9 0 [[sci .i64 2,sci .i64 gep,sci .i64 gm.1,sci .i64 gm.2,lPs gps,sci .i64 gin,sci .i64 gnu,sci .i64 gct,lI gpa]]),(1, .arr 4 0 [[sci .i64 N, .p (.imm 2 (pr eII ls)), .p (.imm 2 (pr eNd T)),scb ff]]),(0, .arr 4 0 [[sci .i64 N, .p (.imm 2 (pr eII ls)), .p (.imm 2 (pr eNd T)),scb ff]])]⟩) (fun k=>out.length - k) (0) [] ?_ ?_ ?_
         ·simp
         ·constructor<;>(try simp (maxSteps:=2000000) (disch:=omega) only [go_sem,simprocAttr,zD,zE,Int.natCast_zero,List.take_of_length_le,List.append_assoc,r0,f0])
         ·rintro k hk
          try refine zW ?_
          by_cases lk:k < out.length
          ·have eR:=rS k lk
           have eF:=fS k lk
           have rLk:=rL k
           have fLk:=fL k
           have hE:=hs4 k lk
           generalize hq:out[k]=o at *
           obtain⟨ol,fk,fe,⟨fm1,fm2⟩,fps,fi,fn,fc,fpa⟩:=o
           rcases hE with ⟨k0,h⟩ | h | h
           ·simp only [ctl,Ou.mk.injEq,Fm.mk.injEq] at h
            obtain⟨h1,h2,h3, -⟩:=h
            have eF':F (k+1)=F k:=by rw [eF,h2];rcases hc with ⟨rfl, -⟩ | ⟨rfl, -⟩<;>simp [isF]
            have eR':R (k+1)=R k+1:=by rw [eR,h1,h2,h3];rcases hc with ⟨rfl, -⟩ | ⟨rfl, -⟩<;>simp [isR]
            rcases hc with ⟨hc, -⟩ | ⟨hc, -⟩
            all_goals
             try refine zO ?_
             (refine zM [2,3,7,8,9,10,12,15,16,17,18] ?_;refine zI [none,none,none,none,none,none,none,none,none,none,none,none,none,none,none,none,none,none,none,none,none,none,none,some [16,17,18,19,20,24,25,26,27,28],none,none,none,none,none,some [16,17,18,19,20],none,none] ?_)
             (try simp (maxSteps:=2000000) (disch:=omega) only [go_sem,simprocAttr,zD,zE,eOu,hq,h1,h2,h3,hc,beq_self_eq_true])
             (refine zF ?_;refine callA_of (qeJ N ls) zB ?_;try refine zW ?_)
             (try simp (maxSteps:=2000000) (disch:=omega) only [go_sem,simprocAttr,zD,zE,eOpN,hp])
             (refine zF ?_;refine callA_of (sBk) zB ?_;try refine zW ?_)
             (try simp (maxSteps:=2000000) (disch:=omega) only [go_sem,simprocAttr,zD,zE,eOu,hq,h1,h2,h3,hc,beq_self_eq_true])
             refine⟨k+1, [],by first | assumption | omega,?_,?_⟩
             ·(try simp only []);omega
             ·constructor<;>(try simp (maxSteps:=2000000) (disch:=omega) only [go_sem,simprocAttr,zD,zE,eR',eF',List.append_assoc])
           ·simp only [ctl,Fm.mk.injEq] at h
            obtain⟨h2,h3, -⟩:=h
            have eF':F (k+1)=F k+1:=by rw [eF,h2,h3];simp [isF]
            have eR':R (k+1)=R k:=by rw [eR,h2];simp [isR]
            try refine zO ?_
            (refine zM [2,3,7,8,9,10,12,15,16,17,18] ?_;refine zI [none,none,none,none,none,none,none,none,none,none,none,none,none,none,none,none,none,none,none,none,none,none,none,some [16,17,18,19,20,24,25,26,27,28],none,none,none,none,none,some [16,17,18,19,20],none,none] ?_)
            (try simp (maxSteps:=2000000) (disch:=omega) only [go_sem,simprocAttr,zD,zE,eOu,hq,h2,h3,beq_self_eq_true])
            refine⟨k+1, [],by first | assumption | omega,?_,?_⟩
            ·(try simp only []);omega
            ·constructor<;>(try simp (maxSteps:=2000000) (disch:=omega) only [go_sem,simprocAttr,zD,zE,eR',eF',List.append_assoc])
           ·simp only at h
            have eF':F (k+1)=F k:=by rw [eF,h];simp [isF]
            have eR':R (k+1)=R k:=by rw [eR,h];simp [isR]
            try refine zO ?_
            (refine zM [2,3,7,8,9,10,12,15,16,17,18] ?_;refine zI [none,none,none,none,none,none,none,none,none,none,none,none,none,none,none,none,none,none,none,none,none,none,none,some [16,17,18,19,20,24,25,26,27,28],none,none,none,none,none,some [16,17,18,19,20],none,none] ?_)
            (try simp (maxSteps:=2000000) (disch:=omega) only [go_sem,simprocAttr,zD,zE,eOu,hq,h])
            refine⟨k+1, [],by first | assumption | omega,?_,?_⟩
            ·(try simp only []);omega
            ·constructor<;>(try simp (maxSteps:=2000000) (disch:=omega) only [go_sem,simprocAttr,zD,zE,eR',eF',List.append_assoc])
          ·obtain rfl:k=out.length:=by omega
           have lz:0 < out.length:=by omega
           have eL:((out.length:Int)==0)=false:=beq_eq_false_iff_ne.2 (by omega)
           rcases hc with ⟨rfl,hn'⟩ | ⟨rfl,hn'⟩
           ·subst hn'
            (try simp (maxSteps:=2000000) (disch:=omega) only [go_sem,simprocAttr,zD,zE,rN,fN,eL,eOu,hs5,ctl])
            (refine zG ?_;refine callA_of (sOu) zB ?_;try refine zW ?_)
            try refine zO ?_
            refine⟨(i+1,y), [],⟨hl1,hl2,ok⟩,by simp only;omega,?_⟩
            constructor<;>((try refine zO ?_);(try with_reducible exact True.intro))
           ·subst hn'
            (try simp (maxSteps:=2000000) (disch:=omega) only [go_sem,simprocAttr,zD,zE,rN,fN,eL,eOu,hs5,ctl])
            refine⟨(i+1,y), [],⟨hl1,hl2,ok⟩,by simp only;omega,?_⟩
            constructor<;>((try refine zO ?_);(try with_reducible exact True.intro))
       ·have hk1:gk≠1:=fun q=>hk (.inl q)
        have hk2:gk≠2:=fun q=>hk (.inr q)
        have b1:(gk != 1)=true:=bne_iff_ne.2 hk1
        have b2:(gk != 2)=true:=bne_iff_ne.2 hk2
        (try simp (maxSteps:=2000000) (disch:=omega) only [go_sem,simprocAttr,zD,zE,b1,b2])
        refine⟨(i+1,y), [],⟨hl1,hl2,ok⟩,by simp only;omega,?_⟩
        constructor<;>((try refine zO ?_);(try with_reducible exact True.intro))
      ·have eb:(e != 0)=true:=bne_iff_ne.2 he
       (try simp (maxSteps:=2000000) (disch:=omega) only [go_sem,simprocAttr,zD,zE,eb])
       refine⟨(i+1,x), [],⟨hl1,hl2,i3.mono (by omega)⟩,by simp only;omega,?_⟩
       constructor<;>((try refine zO ?_);(try with_reducible exact True.intro))
   ·rcases Nat.lt_or_ge i L.length with hl | hl
    all_goals
     try refine zO ?_
     (refine zG ?_;refine callA_of (qbQ) zB ?_;try refine zW ?_)
     ((try refine zO ?_);(try with_reducible exact True.intro))
 ·have eH:=qaf hH
  (try simp (maxSteps:=2000000) (disch:=omega) only [go_sem,simprocAttr,zD,zE,eH])
  (refine zG ?_;refine callA_of (qbQ) zB ?_;try refine zW ?_)
  ((try refine zO ?_);(try with_reducible exact True.intro))
end Go.Proofs.NO
/- The law NodeReplies is proved: whatever is handed in, it answers true, and what is handed in reads as it did. No condition beyond the given statement's own. -/
namespace Go.Proofs.YtfhhdgkhajkapaaGreat
open Go Go.Idl Go.Proofs Go.Proofs.Tryz
set_option maxRecDepth 100000
open Go.ChangeShapes Go.WideShapes Go.ChangeAt Go.RowKit
theorem qhz (os:Os) (H:Type) (enc:TypeId × Value→H): ∃(w:World) (tape:Tape) (i:Input),w.os=os∧(w.forCall tape i).Shaped Tryz.checked.prog∧i.vars= []∧Input.okWide Tryz.checked.prog (w.forCall tape i) .any w.heap.size 5 i∧
   Rows.nodeRepliesSpec.pre6 enc Tryz.checked.prog Tryz.f5 [] false (w.forCall tape i).memory i.args∧({}:Assume).holds Tryz.checked.prog (lone (Frame.enter Tryz.checked.prog 5 i.args .normal) [] (w.forCall tape i)):=
 ChangeSpec.witness6 (enc:=enc) (C:=Tryz.checked) false ⟨#[],#[.agg #[.int .i64 0, .slice none 0 0, .slice none 0 0, .bool false], .int .i64 0, .slice none 0 0], []⟩ 8 (by kernel_rfl) (by kernel_rfl) (by kernel_rfl) (by kernel_rfl)
theorem NodeReplies_holds:Rows.NodeRepliesSaid:=
 OpenClaim.holds_of_wide 5 Tryz.f5 rfl rfl rfl rfl rfl rfl rfl ⟨rfl,rfl,rfl,rfl,rfl⟩ rfl rfl rfl rfl rfl (by kernel_rfl) func5 qgA
  (of_decide_eq_true (by kernel_rfl)) (by unfold Func.isWrapper;rw [if_neg (by decide+kernel)];exact⟨rfl,rfl⟩)
  (fun os started H enc _=>qe7 (C:=Tryz.checked) (s:=Rows.nodeRepliesSpec) started Tryz.own (by kernel_rfl) func5
   (qhz os H enc)
   Tryz.laidOut (tb:=4) (by kernel_rfl) Tryz.underlying4 (by kernel_rfl) rfl (fun ds h=>match ds,h with | [_,_,_],_=>rfl)
   (argsOpen_cons qlB (fun _=>agg (by kernel_rfl)) (argsOpen_cons qaY (fun _=>one (by kernel_rfl)) (argsOpen_cons qlC (fun _=>one (by kernel_rfl)) (qdQ))))
   fun⟨a,n,l,_⟩ _=>NO.NodeReplies_pure a n l)
end Go.Proofs.YtfhhdgkhajkapaaGreat
