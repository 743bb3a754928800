/- What a host gives is its own: the law's walk. -/
import Derived.Test.YtnbhjoopcaaafaaGreatHMh
import Derived.Test.YtnbhjoopcaaafaaGreatHMe
import Derived.Test.YtnbhjoopcaaafaaGreatHM
set_option linter.unusedSimpArgs false
set_option linter.unusedVariables false
namespace Go.Proofs.HO
open Go Go.Idl Go.Proofs Go.GP
set_option maxHeartbeats 20000000
set_option maxRecDepth 100000
def good {β:Type} (n:Nat) (xs:List (Nat × List β)):Prop:=xs.length=n∧ ∀y∈xs,y.2.length≤1000000
theorem good_fresh {β:Type} {l:List (List β)} (h: ∀x∈l,x.length≤1000000):good l.length (freshF l):=⟨freshF_len l,fun y hy=>by
 obtain⟨x,hx,rfl⟩:=List.mem_map.1 hy
 exact h x hx⟩
theorem HostOwn_pure (s0:Sc) (h0:Hs) (k x:Int) (m:Int × Int):
  Pure Tryz.prog 5 [lApp s0,lHs h0, .agg [sci .i64 k,sci .i64 x,sci .i64 m.1,sci .i64 m.2]] (scb true):=by
 obtain⟨k8,kl,ko⟩:=ok_cut s0
 have hg:=gHs_cut h0
 have hci:=cut_idem h0
 obtain⟨m1,m2⟩:=m
 simp only
 refine pcall0 200 (fn:=Tryz.f5) Tryz.func5 rfl (by simp [Tryz.ntmps5]) zB zB fun hs=>?_
 ((try refine zW ?_);(try with_reducible exact True.intro))
 (refine at_call 200 ?_;(refine zW ?_;try with_reducible exact True.intro);refine callA_of (L5Cut_spec s0) zB ?_;((try refine zW ?_);(try with_reducible exact True.intro)))
 ((try refine zW ?_);(try with_reducible exact True.intro))
 (refine at_call 200 ?_;(refine zW ?_;try with_reducible exact True.intro);refine callA_of (L9cut_spec h0) zB ?_;((try refine zW ?_);(try with_reducible exact True.intro)))
 generalize cutSc s0=s at *
 generalize cutHs h0=h at *
 have hT:=small_ok k8 ko
 obtain⟨N,ls,T,ff,room,acts⟩:=s
 simp only at k8 kl ko hT
 ((try refine zW ?_);(try with_reducible exact True.intro))
 (refine walk_trim [3,4,5] trivial zL ?_;(refine zW ?_;try with_reducible exact True.intro);refine irun_walk (id:=3) (n:=200) [none,some [2],none,some [],some [],none] mixed (by kernel_rfl) ?_)
 ((try refine zW ?_);(try with_reducible exact True.intro))
 (refine at_dcall ?_;(refine zW ?_;try with_reducible exact True.intro);refine callA_of (L5App_spec ⟨N,ls,T,ff,room,acts⟩ k8 ko) zB ?_;((try refine zW ?_);(try with_reducible exact True.intro)))
 ((try refine zW ?_);(try with_reducible exact True.intro))
 (refine at_dcall ?_;(refine zW ?_;try with_reducible exact True.intro);refine callA_of (L9Ref_spec h) zB ?_;((try refine zW ?_);(try with_reducible exact True.intro)))
 ((try refine zW ?_);(try with_reducible exact True.intro))
 (refine at_dcall ?_;(refine zW ?_;try with_reducible exact True.intro);refine callA_of (R9Right_spec ⟨N,ls,T,ff,room,acts⟩ h kl hT hg) zB ?_;((try refine zW ?_);(try with_reducible exact True.intro)))
 by_cases hH:HostP N ls T h
 ·have eH:=tB_pos hH
  obtain⟨n,j,nd,st,f⟩:=HF.of hH
  have hkt:=((hT.2 n nd f.hx).2 j st f.hq).2.2
  have hPe:=Pick_spec ⟨N,ls,T,ff,room,acts⟩ h k n j nd st f.hn f.hj f.hx f.hq hg kl (fun p hp=>⟨by have:=(f.picks p hp).2.1;omega,fun y hy=>((f.picks p hp).2.2 y hy).1⟩) f.outl f.st0
  have hKe:=Take_spec ⟨N,ls,T,ff,room,acts⟩ h x (m1,m2) n j nd st f.hn f.hj f.hx f.hq hg kl hkt f.inl f.rows f.st0
  have hn':=f.hn
  have hj':=f.hj
  (try simp (maxSteps:=2000000) (disch:=omega) only [go_sem,simprocAttr,zD,zE,eH])
  (refine at_call 200 ?_;(refine zW ?_;try with_reducible exact True.intro);refine callA_of (L9cut_spec h) zB ?_;((try refine zW ?_);(try with_reducible exact True.intro)))
  rw [hci]
  (refine at_call 200 ?_;(refine zW ?_;try with_reducible exact True.intro);refine callA_of (L9Ref_spec h) zB ?_;((try refine zW ?_);(try with_reducible exact True.intro)))
  have ha5:=f.in5
  have hb5:=f.out5
  have hfi:=freshF_len h.inn
  have hfo:=freshF_len h.out
  rcases pickH_cases2 (ls:=ls) (st:=st) (h:=h) (k:=k) with ⟨e,eP⟩ | ⟨p,out',S,hm,hk0,hpk,hgo⟩
  ·rw [eP] at hPe
   (refine at_call 200 ?_;(refine zW ?_;try with_reducible exact True.intro);refine callA_of (hPe) zB ?_;((try refine zW ?_);(try with_reducible exact True.intro)))
   (try simp (maxSteps:=2000000) (disch:=omega) only [go_sem,simprocAttr,zD,zE,zHs])
   rcases takeH_cases2 (ls:=ls) (st:=st) (h:=h) (x:=x) (m:=(m1,m2)) with eT | hT2
   ·rw [eT] at hKe
    (refine at_call 200 ?_;(refine zW ?_;try with_reducible exact True.intro);refine callA_of (hKe) zB ?_;((try refine zW ?_);(try with_reducible exact True.intro)))
    (try simp (maxSteps:=2000000) (disch:=omega) only [go_sem,simprocAttr,zD,zE,zH])
    refine walk_floop 200 200 (fun i:Nat=>i≤2)
     (fun i=>⟨169, [(4, .ptr 1 0 0 0),(7, .ptr 3 0 0 0),(13, .p (.imm 5 [[.sc (.int .i64 0), .sc (.int .i64 0), .sc (.int .i64 0), .imm 1 [], .imm 1 []], [.sc (.int .i64 0), .sc (.int .i64 0), .sc (.int .i64 0), .imm 1 [], .imm 1 []]])),(14,sci .i64 i)], [],6,(3, .arr 5 0 [[sci .i64 h.node,sci .i64 h.state,sci .i64 h.steps,lMs h.inn,lLs h.out]])::(1, .arr 5 0 [[sci .i64 h.node,sci .i64 h.state,sci .i64 h.steps,lMs h.inn,lLs h.out]]):: []⟩) (fun i=>2 - i) 0 [] ?_ ?_ ?_
    ·exact Nat.zero_le _
    ·constructor<;>(try simp (maxSteps:=2000000) (disch:=omega) only [go_sem,simprocAttr,zD,zE,Int.natCast_zero])
    ·clear hfi hfo
     rintro i i1
     rcases (show i=0∨i=1∨i=2 by omega) with rfl | rfl | rfl
     ·(try simp (maxSteps:=2000000) only [go_sem,simprocAttr,Int.natCast_zero])
      ((try refine zO ?_);(try with_reducible exact True.intro))
      refine walk_floop 200 200 (fun w:Nat=>w=0)
       (fun w=>⟨169, [(4, .ptr 1 0 0 0),(7, .ptr 3 0 0 0),(13, .p (.imm 5 [[.sc (.int .i64 0), .sc (.int .i64 0), .sc (.int .i64 0), .imm 1 [], .imm 1 []], [.sc (.int .i64 0), .sc (.int .i64 0), .sc (.int .i64 0), .imm 1 [], .imm 1 []]])),(14,sci .i64 0),(15,sci .i64 w)], [],6,(3, .arr 5 0 [[sci .i64 h.node,sci .i64 h.state,sci .i64 h.steps,lMs h.inn,lLs h.out]])::(1, .arr 5 0 [[sci .i64 h.node,sci .i64 h.state,sci .i64 h.steps,lMs h.inn,lLs h.out]]):: []⟩) (fun _=>0) 0 [] ?_ ?_ ?_
      ·rfl
      ·constructor<;>(try simp (maxSteps:=2000000) (disch:=omega) only [go_sem,simprocAttr,zD,zE,Int.natCast_zero])
      ·rintro w rfl
       (try simp (maxSteps:=2000000) (disch:=omega) only [go_sem,simprocAttr,zD,zE,Int.natCast_zero])
       refine walk_floop 200 200 (fun w:Nat=>w=0)
        (fun w=>⟨169, [(4, .ptr 1 0 0 0),(7, .ptr 3 0 0 0),(13, .p (.imm 5 [[.sc (.int .i64 0), .sc (.int .i64 0), .sc (.int .i64 0), .imm 1 [], .imm 1 []], [.sc (.int .i64 0), .sc (.int .i64 0), .sc (.int .i64 0), .imm 1 [], .imm 1 []]])),(14,sci .i64 0),(17,sci .i64 w)], [],6,(3, .arr 5 0 [[sci .i64 h.node,sci .i64 h.state,sci .i64 h.steps,lMs h.inn,lLs h.out]])::(1, .arr 5 0 [[sci .i64 h.node,sci .i64 h.state,sci .i64 h.steps,lMs h.inn,lLs h.out]]):: []⟩) (fun _=>0) 0 [] ?_ ?_ ?_
       ·rfl
       ·constructor<;>(try simp (maxSteps:=2000000) (disch:=omega) only [go_sem,simprocAttr,zD,zE,Int.natCast_zero])
       ·rintro w rfl
        (try simp (maxSteps:=2000000) (disch:=omega) only [go_sem,simprocAttr,zD,zE,Int.natCast_zero])
        refine⟨1, [],by decide,by decide,?_⟩
        constructor<;>((try refine zO ?_);(try with_reducible exact True.intro))
     ·(try simp (maxSteps:=2000000) only [go_sem,simprocAttr,Int.natCast_zero])
      ((try refine zO ?_);(try with_reducible exact True.intro))
      refine walk_floop 200 200 (fun w:Nat=>w=0)
       (fun w=>⟨169, [(4, .ptr 1 0 0 0),(7, .ptr 3 0 0 0),(13, .p (.imm 5 [[.sc (.int .i64 0), .sc (.int .i64 0), .sc (.int .i64 0), .imm 1 [], .imm 1 []], [.sc (.int .i64 0), .sc (.int .i64 0), .sc (.int .i64 0), .imm 1 [], .imm 1 []]])),(14,sci .i64 1),(15,sci .i64 w)], [],6,(3, .arr 5 0 [[sci .i64 h.node,sci .i64 h.state,sci .i64 h.steps,lMs h.inn,lLs h.out]])::(1, .arr 5 0 [[sci .i64 h.node,sci .i64 h.state,sci .i64 h.steps,lMs h.inn,lLs h.out]]):: []⟩) (fun _=>0) 0 [] ?_ ?_ ?_
      ·rfl
      ·constructor<;>(try simp (maxSteps:=2000000) (disch:=omega) only [go_sem,simprocAttr,zD,zE,Int.natCast_zero])
      ·rintro w rfl
       (try simp (maxSteps:=2000000) (disch:=omega) only [go_sem,simprocAttr,zD,zE,Int.natCast_zero])
       refine walk_floop 200 200 (fun w:Nat=>w=0)
        (fun w=>⟨169, [(4, .ptr 1 0 0 0),(7, .ptr 3 0 0 0),(13, .p (.imm 5 [[.sc (.int .i64 0), .sc (.int .i64 0), .sc (.int .i64 0), .imm 1 [], .imm 1 []], [.sc (.int .i64 0), .sc (.int .i64 0), .sc (.int .i64 0), .imm 1 [], .imm 1 []]])),(14,sci .i64 1),(17,sci .i64 w)], [],6,(3, .arr 5 0 [[sci .i64 h.node,sci .i64 h.state,sci .i64 h.steps,lMs h.inn,lLs h.out]])::(1, .arr 5 0 [[sci .i64 h.node,sci .i64 h.state,sci .i64 h.steps,lMs h.inn,lLs h.out]]):: []⟩) (fun _=>0) 0 [] ?_ ?_ ?_
       ·rfl
       ·constructor<;>(try simp (maxSteps:=2000000) (disch:=omega) only [go_sem,simprocAttr,zD,zE,Int.natCast_zero])
       ·rintro w rfl
        (try simp (maxSteps:=2000000) (disch:=omega) only [go_sem,simprocAttr,zD,zE,Int.natCast_zero])
        refine⟨2, [],by decide,by decide,?_⟩
        constructor<;>((try refine zO ?_);(try with_reducible exact True.intro))
     ·(try simp (maxSteps:=2000000) only [go_sem,simprocAttr,Int.natCast_zero])
      ((try refine zO ?_);(try with_reducible exact True.intro))
      refine walk_fcut 200 [] ⟨169, [(135,lHs h),(4, .ptr 1 0 0 0),(7, .ptr 3 0 0 0)], [],4, [(3, .arr 5 0 [[sci .i64 h.node,sci .i64 h.state,sci .i64 h.steps,lMs h.inn,lLs h.out]]),(1, .arr 5 0 [[sci .i64 h.node,sci .i64 h.state,sci .i64 h.steps,lMs h.inn,lLs h.out]])]⟩ trivial ?_ ?_
      ·constructor<;>((try refine zO ?_);(try with_reducible exact True.intro))
      obtain⟨X,hX⟩: ∃X:List Int,X=h.out.map fun l=>(l.length:Int):=⟨_,rfl⟩
      have hSF:=PieceFF_blk h f.gHs hX rfl
      rw [ffW_gfW] at hSF
      have hfi:=freshF_len h.inn
      have hfo:=freshF_len h.out
      have Si: ∀t u,t < 2+h.inn.length+h.out.length→u < 2+h.inn.length+h.out.length→νG 100 1000 101 3000 h.inn.length t=νG 100 1000 101 3000 h.inn.length u→t=u:=fun t u ht hu e=>νG_inj (by decide) (by decide) (by omega) ht hu e
      have Sb: ∀t,t < 2+h.inn.length+h.out.length→4≤νG 100 1000 101 3000 h.inn.length t∧νG 100 1000 101 3000 h.inn.length t < 5000:=fun t ht=>by have:=νG_bd (o1:=100) (k1:=1000) (o2:=101) (k2:=3000) (n:=5000) (by decide) (by decide) (by omega) (by omega) ht;omega
      have S0:νG 100 1000 101 3000 h.inn.length 0=100:=rfl
      have S1:νG 100 1000 101 3000 h.inn.length (1+h.inn.length)=101:=by unfold νG;rw [if_neg (by omega),if_neg (by omega),if_pos rfl]
      have SW:=νG_gfW (o1:=100) (k1:=1000) (o2:=101) (k2:=3000) (xs:=freshF h.inn) (cur:=freshF h.out)
      rw [hfi,hfo] at SW
      have Gxp:=good_fresh f.gHs.inns
      have Gcp:=good_fresh f.gHs.outs
      generalize gfW (freshF h.inn) (freshF h.out)=WS at hSF SW
      generalize νG 100 1000 101 3000 h.inn.length=νS at *
      refine at_gN 200 νS 5000 hSF Si Sb (by omega) ?_
      rw [SW]
      generalize freshF h.inn=xp at *
      generalize freshF h.out=cp at *
      have Lxp:=Gxp.1
      have Lcp:=Gcp.1
      (try simp (maxSteps:=2000000) (disch:=omega) only [go_sem,simprocAttr,zD,zE,S0,S1,look_famo,hfi,hfo])
      clear hSF Si Sb S0 S1 SW hfi hfo
      refine walk_floop 200 200 (fun w:Nat × List (Nat × List (Int × Int))=>w.1≤h.inn.length∧good h.inn.length w.2)
       (fun w=>⟨169, [(4, .ptr 1 0 0 0),(7, .ptr 3 0 0 0),(19, .ptr 5000 0 0 0),(20,sci .i64 w.1)], [],5001,(5000, .arr 6 0 [[sci .i64 h.node,sci .i64 h.state,sci .i64 h.steps,lI X, .ref 100 h.inn.length 0 h.inn.length, .ref 101 h.out.length 0 h.out.length]])::(100, .arr 1 h.inn.length (refsR 1000 w.2))::(101, .arr 1 h.out.length (refsR 3000 cp))::(3, .arr 5 0 [[sci .i64 h.node,sci .i64 h.state,sci .i64 h.steps,lMs h.inn,lLs h.out]])::(1, .arr 5 0 [[sci .i64 h.node,sci .i64 h.state,sci .i64 h.steps,lMs h.inn,lLs h.out]])::kFam w.2 cp [] []⟩) (fun w=>h.inn.length - w.1) (0,xp) [] ?_ ?_ ?_
      ·exact⟨Nat.zero_le _,Gxp⟩
      ·constructor
       case blks=>
        (try simp (maxSteps:=2000000) (disch:=omega) only [go_sem,simprocAttr,zD,zE,look_famo,Lxp,Lcp])
        refine fblks_mem fun q hq=>?_
        rcases kF_cases hq with ⟨t,ht,rfl⟩ | ⟨t,ht,rfl⟩ | ⟨t,ht,rfl⟩ | ⟨t,ht,rfl⟩
        ·have ht2:=ht
         rw [Lxp] at ht2
         have e0:(5000=1000+t)=False:=eq_false (by omega)
         have e1:(100=1000+t)=False:=eq_false (by omega)
         have e2:(101=1000+t)=False:=eq_false (by omega)
         have e3:(3=1000+t)=False:=eq_false (by omega)
         have e4:(1=1000+t)=False:=eq_false (by omega)
         have hk:=look_fam (sz:=2) (e:=eII) (k:=1000) (r:= []) ht
         rw [List.append_nil] at hk
         (try simp (maxSteps:=2000000) (disch:=omega) only [go_sem,simprocAttr,zD,zE,e0,e1,e2,e3,e4,look_famo,Lxp,Lcp,look_fam ht,hk])
        ·have ht2:=ht
         rw [Lcp] at ht2
         have e0:(5000=3000+t)=False:=eq_false (by omega)
         have e1:(100=3000+t)=False:=eq_false (by omega)
         have e2:(101=3000+t)=False:=eq_false (by omega)
         have e3:(3=3000+t)=False:=eq_false (by omega)
         have e4:(1=3000+t)=False:=eq_false (by omega)
         have hk:=look_fam (sz:=1) (e:=eI) (k:=3000) (r:= []) ht
         rw [List.append_nil] at hk
         (try simp (maxSteps:=2000000) (disch:=omega) only [go_sem,simprocAttr,zD,zE,e0,e1,e2,e3,e4,look_famo,Lxp,Lcp,look_fam ht,hk])
        ·simp at ht
        ·simp at ht
       all_goals(try simp (maxSteps:=2000000) (disch:=omega) only [go_sem,simprocAttr,zD,zE,Int.natCast_zero])
      ·clear Lxp Gxp xp
       rintro⟨k,xp⟩ ⟨k1,Gxp⟩
       simp only at k1 Gxp
       have Lxp:=Gxp.1
       by_cases lk:k < h.inn.length
       ·obtain⟨R,hR⟩: ∃R,((xp[k]?).map fun y=>y.2.length)=some R:=⟨_,by rw [List.getElem?_eq_getElem (by omega)];rfl⟩
        ((try refine zO ?_);(try with_reducible exact True.intro))
        refine walk_floop 200 200 (fun w:Nat × List (Nat × List (Int × Int))=>w.1≤R∧good h.inn.length w.2∧((w.2[k]?).map fun y=>y.2.length)=some R)
         (fun w=>⟨169, [(4, .ptr 1 0 0 0),(7, .ptr 3 0 0 0),(19, .ptr 5000 0 0 0),(20,sci .i64 k),(21,sci .i64 w.1)], [],5001,(5000, .arr 6 0 [[sci .i64 h.node,sci .i64 h.state,sci .i64 h.steps,lI X, .ref 100 h.inn.length 0 h.inn.length, .ref 101 h.out.length 0 h.out.length]])::(100, .arr 1 h.inn.length (refsR 1000 w.2))::(101, .arr 1 h.out.length (refsR 3000 cp))::(3, .arr 5 0 [[sci .i64 h.node,sci .i64 h.state,sci .i64 h.steps,lMs h.inn,lLs h.out]])::(1, .arr 5 0 [[sci .i64 h.node,sci .i64 h.state,sci .i64 h.steps,lMs h.inn,lLs h.out]])::kFam w.2 cp [] []⟩) (fun w=>R - w.1) (0,xp) [] ?_ ?_ ?_
        ·exact⟨Nat.zero_le _,Gxp,hR⟩
        ·constructor
         case blks=>
          ((try refine zW ?_);(try with_reducible exact True.intro))
          refine fblks_mem fun q hq=>?_
          have hd:=kF_dom (by rw [Lxp];omega) (by rw [Lcp];omega) (by decide) (by decide) hq
          simp only [List.append_nil,look_skip,dks,hd]
          exact kF_self (by rw [Lxp];omega)  (by rw [Lcp];omega)  (by decide) hq
         all_goals(try simp (maxSteps:=2000000) (disch:=omega) only [go_sem,simprocAttr,zD,zE,Int.natCast_zero])
        ·clear hR Lxp Gxp xp
         rintro⟨j,v⟩ ⟨j1,Gv,hR⟩
         simp only at j1 Gv hR
         have Lv:=Gv.1
         have lkv:k < v.length:=by omega
         have hkb:=Gv.2 _ (List.getElem_mem lkv)
         rw [List.getElem?_eq_getElem lkv,Option.map_some] at hR
         have hrg:(refsR 1000 v)[k]? =some [.ref (1000+k) v[k].1 0 v[k].2.length]:=refsR_get lkv
         have hlk:Idl.look (kFam v cp [] []) (1000+k)=some (.arr 2 v[k].1 (ir eII v[k].2)):=kF_xp (by rw [Lv];omega) lkv
         have hsh:=sh_set (xs:=v) (k:=k) (j:=j) (v:=((98,0):Int × Int)) lkv
         have hdr: ∀t:Int × Int,List.drop 2 (List.map IV.p (eII t))= []:=fun _=>rfl
         generalize hvk:v[k]=o at *
         obtain⟨go,ro⟩:=o
         simp only [Option.some.injEq] at hkb hR hrg hlk hsh
         have e0:(5000=1000+k)=False:=eq_false (by omega)
         have e1:(100=1000+k)=False:=eq_false (by omega)
         have e2:(101=1000+k)=False:=eq_false (by omega)
         have e3:(3=1000+k)=False:=eq_false (by omega)
         have e4:(1=1000+k)=False:=eq_false (by omega)
         have hw:IntKind.i64.wrap ((j:Int)+1)=(j:Int)+1:=w64 (by omega)
         (try simp (maxSteps:=2000000) only [go_sem,simprocAttr,e0,e1,e2,e3,e4,hrg,hlk,hR,lk])
         by_cases lj:j < R
         ·have hir:(ir eII ro).set j [IV.p (.sc (.int .i64 98)),IV.p (.sc (.int .i64 0))]=ir eII (ro.set j (98,0)):=by rw [ir,ir,List.map_set];rfl
          (try simp (maxSteps:=2000000) only [go_sem,simprocAttr,if_pos lj,e0,e1,e2,e3,e4,hrg,hlk,hR,hir,hdr,lj,lk,hw])
          (try simp (maxSteps:=2000000) (disch:=omega) only [go_sem,simprocAttr,zD,zE,e0,e1,e2,e3,e4,hrg,hlk,hR,hir,hdr,lj])
          have hrf:refsR 1000 (v.set k (go,ro.set j (98,0)))=refsR 1000 v:=refsR_sh hsh
          refine⟨(j+1,(v.set k (go,ro.set j (98,0)))), [],⟨lj,⟨by rw [List.length_set];exact Gv.1,fun y hy=>?_⟩,?_⟩,by simp only;omega,?_⟩
          ·rcases List.mem_or_eq_of_mem_set hy with hy | rfl
           ·exact Gv.2 y hy
           ·simp only [List.length_set];omega
          ·simp only [List.getElem?_set_self lkv,Option.map_some,List.length_set,hR]
          ·constructor
           case blks=>
            (try simp (maxSteps:=2000000) (disch:=omega) only [go_sem,simprocAttr,zD,zE,hrf])
            refine fblks_mem fun q hq=>?_
            rcases kF_setxp (by rw [Lv];omega) (by rw [Lcp];omega) (by decide) (by decide) lkv hq with rfl | ⟨hq2,hne⟩
            ·rw [List.append_nil]
             exact look_cons.trans (if_pos rfl)
            ·have hd:=kF_dom (by rw [Lv];omega) (by rw [Lcp];omega) (by decide) (by decide) hq2
             rw [List.append_nil,look_cons,if_neg (fun c=>hne c.symm)]
             simp only [look_skip,dks,hd]
             exact kF_self (by rw [Lv];omega)  (by rw [Lcp];omega)  (by decide) hq2
           all_goals((try refine zO ?_);(try with_reducible exact True.intro))
         ·obtain rfl:j=R:=by omega
          (try simp (maxSteps:=2000000) (disch:=omega) only [go_sem,simprocAttr,zD,zE,e0,e1,e2,e3,e4,hrg,hlk,hR])
          refine⟨(k+1,v), [],⟨lk,Gv⟩,by simp only;omega,?_⟩
          constructor
          case blks=>
           ((try refine zW ?_);(try with_reducible exact True.intro))
           refine fblks_mem fun q hq=>?_
           have hd:=kF_dom (by rw [Lv];omega) (by rw [Lcp];omega) (by decide) (by decide) hq
           simp only [List.append_nil,look_skip,dks,hd]
           exact kF_self (by rw [Lv];omega)  (by rw [Lcp];omega)  (by decide) hq
          all_goals((try refine zO ?_);(try with_reducible exact True.intro))
       ·obtain rfl:k=h.inn.length:=by omega
        ((try refine zO ?_);(try with_reducible exact True.intro))
        (refine walk_trim [4,7] trivial zL ?_;(refine zW ?_;try with_reducible exact True.intro);refine irun_walk (id:=34) (n:=200) [none,some [2],none,some [],none,some [],none,none] mixed (by kernel_rfl) ?_)
        ((try refine zW ?_);(try with_reducible exact True.intro))
        (refine at_dcall ?_;(refine zW ?_;try with_reducible exact True.intro);refine callA_of (L9Ref_spec h) zB ?_;((try refine zW ?_);(try with_reducible exact True.intro)))
        ((try refine zW ?_);(try with_reducible exact True.intro))
        (refine at_dcall ?_;(refine zW ?_;try with_reducible exact True.intro);refine callA_of (R9SameR_spec h f.gHs) zB ?_;((try refine zW ?_);(try with_reducible exact True.intro)))
        ((try refine zW ?_);(try with_reducible exact True.intro))
        (refine at_dcall ?_;(refine zW ?_;try with_reducible exact True.intro);refine callA_of (fixed_spec) zB ?_;((try refine zW ?_);(try with_reducible exact True.intro)))
        ((try refine zW ?_);(try with_reducible exact True.intro))
   ·obtain⟨kx,i,FA,FB,row,lk,hxk,he,hAB,hA,hlk,hm1,hm2,hf⟩:=hT2
    subst hxk
    have hTF:=TakeFF_blk ⟨N,ls,T,ff,room,acts⟩ h (m1,m2) n j nd st f.hn f.hj f.hx f.hq hg kl hkt f.inl f.rows f.st0 he hAB hA hlk hm1 hm2 hf rfl
    simp only at hTF
    generalize hxq:freshF FA++(1,row.take (posL m1 row)++(m1,m2)::row.drop (posL m1 row))::freshF FB=xq at hTF
    have hxl:xq.length=h.inn.length:=by rw [←hxq,hAB];simp [freshF_len]
    have Qi: ∀t u,t < 2+h.inn.length+h.out.length→u < 2+h.inn.length+h.out.length→νG 5010 6000 5011 8000 h.inn.length t=νG 5010 6000 5011 8000 h.inn.length u→t=u:=fun t u ht hu e=>νG_inj (by decide) (by decide) (by omega) ht hu e
    have Qb: ∀t,t < 2+h.inn.length+h.out.length→5≤νG 5010 6000 5011 8000 h.inn.length t∧νG 5010 6000 5011 8000 h.inn.length t < 9000:=fun t ht=>by have:=νG_bd (o1:=5010) (k1:=6000) (o2:=5011) (k2:=8000) (n:=9000) (by decide) (by decide) (by omega) (by omega) ht;omega
    have Q0:νG 5010 6000 5011 8000 h.inn.length 0=5010:=rfl
    have Q1:νG 5010 6000 5011 8000 h.inn.length (1+h.inn.length)=5011:=by unfold νG;rw [if_neg (by omega),if_neg (by omega),if_pos rfl]
    have QW:=νG_gfW (o1:=5010) (k1:=6000) (o2:=5011) (k2:=8000) (xs:=xq) (cur:=freshF h.out)
    rw [hxl,hfo] at QW
    generalize gfW xq (freshF h.out)=WQ at hTF QW
    generalize νG 5010 6000 5011 8000 h.inn.length=νQ at *
    refine at_gN 200 νQ 9000 hTF Qi Qb (by omega) ?_
    rw [QW]
    (try simp (maxSteps:=2000000) (disch:=omega) only [go_sem,simprocAttr,zD,zE,Q0,Q1,look_famo,hfi,hfo,hxl])
    have Gxq:good h.inn.length xq:=⟨hxl,fun y hy=>by
     rw [←hxq] at hy
     have hrr:row.length≤1000:=(f.rows row (by rw [hAB];simp)).2
     simp only [List.mem_append,List.mem_cons] at hy
     rcases hy with hy | rfl | hy
     ·obtain⟨z,hz,rfl⟩:=List.mem_map.1 hy
      exact f.gHs.inns z (by rw [hAB];simp [hz])
     ·simp only;rw [sIns_eq (m1,m2) row,sIns_len];omega
     ·obtain⟨z,hz,rfl⟩:=List.mem_map.1 hy
      exact f.gHs.inns z (by rw [hAB];simp [hz])⟩
    have Gcq:=good_fresh f.gHs.outs
    generalize freshF h.out=cq at *
    generalize takenL lk.1 m2 h.state st.takes=stq at *
    have Lxq:=Gxq.1
    have Lcq:=Gcq.1
    refine walk_floop 200 200 (fun i:Nat × List (Nat × List (Int × Int)) × List (Nat × List (Int))=>i.1≤2∧good h.inn.length i.2.1∧good h.out.length i.2.2)
     (fun i=>⟨169, [(4, .ptr 1 0 0 0),(7, .ptr 3 0 0 0),(13, .ref 9001 0 0 2),(14,sci .i64 i.1)], [],9002,(9001, .arr 5 0 [[sci .i64 0,sci .i64 0,sci .i64 0,lMs [],lLs []], [sci .i64 h.node,sci .i64 stq,sci .i64 (h.steps+1), .ref 5010 h.inn.length 0 h.inn.length, .ref 5011 h.out.length 0 h.out.length]])::(5010, .arr 1 h.inn.length (refsR 6000 i.2.1))::(5011, .arr 1 h.out.length (refsR 8000 i.2.2))::(3, .arr 5 0 [[sci .i64 h.node,sci .i64 h.state,sci .i64 h.steps,lMs h.inn,lLs h.out]])::(1, .arr 5 0 [[sci .i64 h.node,sci .i64 h.state,sci .i64 h.steps,lMs h.inn,lLs h.out]])::kFam [] [] i.2.1 i.2.2⟩) (fun i=>2 - i.1) (0,xq,cq) [] ?_ ?_ ?_
    ·exact⟨Nat.zero_le _,Gxq,Gcq⟩
    ·constructor
     case blks=>
      (try simp (maxSteps:=2000000) (disch:=omega) only [go_sem,simprocAttr,zD,zE,look_famo,Lxq,Lcq,hfi,hfo])
      refine fblks_mem fun q hq=>?_
      rcases kF_cases hq with ⟨t,ht,rfl⟩ | ⟨t,ht,rfl⟩ | ⟨t,ht,rfl⟩ | ⟨t,ht,rfl⟩
      ·simp at ht
      ·simp at ht
      ·have ht2:=ht
       rw [Lxq] at ht2
       have e0:(9001=6000+t)=False:=eq_false (by omega)
       have e1:(9000=6000+t)=False:=eq_false (by omega)
       have e2:(5010=6000+t)=False:=eq_false (by omega)
       have e3:(5011=6000+t)=False:=eq_false (by omega)
       have e4:(4=6000+t)=False:=eq_false (by omega)
       have e5:(3=6000+t)=False:=eq_false (by omega)
       have e6:(1=6000+t)=False:=eq_false (by omega)
       have e7:(0=6000+t)=False:=eq_false (by omega)
       have e8:(2=6000+t)=False:=eq_false (by omega)
       have hk:=look_fam (sz:=2) (e:=eII) (k:=6000) (r:= []) ht
       rw [List.append_nil] at hk
       (try simp (maxSteps:=2000000) (disch:=omega) only [go_sem,simprocAttr,zD,zE,e0,e1,e2,e3,e4,e5,e6,e7,e8,look_famo,Lxq,Lcq,look_fam ht,hk])
      ·have ht2:=ht
       rw [Lcq] at ht2
       have e0:(9001=8000+t)=False:=eq_false (by omega)
       have e1:(9000=8000+t)=False:=eq_false (by omega)
       have e2:(5010=8000+t)=False:=eq_false (by omega)
       have e3:(5011=8000+t)=False:=eq_false (by omega)
       have e4:(4=8000+t)=False:=eq_false (by omega)
       have e5:(3=8000+t)=False:=eq_false (by omega)
       have e6:(1=8000+t)=False:=eq_false (by omega)
       have e7:(0=8000+t)=False:=eq_false (by omega)
       have e8:(2=8000+t)=False:=eq_false (by omega)
       have hk:=look_fam (sz:=1) (e:=eI) (k:=8000) (r:= []) ht
       rw [List.append_nil] at hk
       (try simp (maxSteps:=2000000) (disch:=omega) only [go_sem,simprocAttr,zD,zE,e0,e1,e2,e3,e4,e5,e6,e7,e8,look_famo,Lxq,Lcq,look_fam ht,hk])
     all_goals(try simp (maxSteps:=2000000) (disch:=omega) only [go_sem,simprocAttr,zD,zE,Int.natCast_zero])
    ·clear hPe hKe k8 kl ko hkt hn' hj' hfi hfo he hlk hm1 hm2 hf hTF Qi Qb Q0 Q1 QW
     rintro⟨i,xq,cq⟩ ⟨i1,Gxq,Gcq⟩
     simp only at i1 Gxq Gcq
     have Lxq:=Gxq.1
     have Lcq:=Gcq.1
     rcases (show i=0∨i=1∨i=2 by omega) with rfl | rfl | rfl
     ·(try simp (maxSteps:=2000000) only [go_sem,simprocAttr,Int.natCast_zero])
      ((try refine zO ?_);(try with_reducible exact True.intro))
      refine walk_floop 200 200 (fun w:Nat=>w=0)
       (fun w=>⟨169, [(4, .ptr 1 0 0 0),(7, .ptr 3 0 0 0),(13, .ref 9001 0 0 2),(14,sci .i64 0),(15,sci .i64 w)], [],9002,(9001, .arr 5 0 [[sci .i64 0,sci .i64 0,sci .i64 0,lMs [],lLs []], [sci .i64 h.node,sci .i64 stq,sci .i64 (h.steps+1), .ref 5010 h.inn.length 0 h.inn.length, .ref 5011 h.out.length 0 h.out.length]])::(5010, .arr 1 h.inn.length (refsR 6000 xq))::(5011, .arr 1 h.out.length (refsR 8000 cq))::(3, .arr 5 0 [[sci .i64 h.node,sci .i64 h.state,sci .i64 h.steps,lMs h.inn,lLs h.out]])::(1, .arr 5 0 [[sci .i64 h.node,sci .i64 h.state,sci .i64 h.steps,lMs h.inn,lLs h.out]])::kFam [] [] xq cq⟩) (fun _=>0) 0 [] ?_ ?_ ?_
      ·rfl
      ·constructor
       case blks=>
        ((try refine zW ?_);(try with_reducible exact True.intro))
        refine fblks_mem fun q hq=>?_
        have hd:=kF_dom (by decide) (by decide) (by rw [Lxq];omega) (by rw [Lcq];omega) hq
        simp only [List.append_nil,look_skip,dks,hd]
        exact kF_self (by decide)  (by decide)  (by rw [Lxq];omega) hq
       all_goals(try simp (maxSteps:=2000000) (disch:=omega) only [go_sem,simprocAttr,zD,zE,Int.natCast_zero])
      ·rintro w rfl
       (try simp (maxSteps:=2000000) (disch:=omega) only [go_sem,simprocAttr,zD,zE,Int.natCast_zero])
       refine walk_floop 200 200 (fun w:Nat=>w=0)
        (fun w=>⟨169, [(4, .ptr 1 0 0 0),(7, .ptr 3 0 0 0),(13, .ref 9001 0 0 2),(14,sci .i64 0),(17,sci .i64 w)], [],9002,(9001, .arr 5 0 [[sci .i64 0,sci .i64 0,sci .i64 0,lMs [],lLs []], [sci .i64 h.node,sci .i64 stq,sci .i64 (h.steps+1), .ref 5010 h.inn.length 0 h.inn.length, .ref 5011 h.out.length 0 h.out.length]])::(5010, .arr 1 h.inn.length (refsR 6000 xq))::(5011, .arr 1 h.out.length (refsR 8000 cq))::(3, .arr 5 0 [[sci .i64 h.node,sci .i64 h.state,sci .i64 h.steps,lMs h.inn,lLs h.out]])::(1, .arr 5 0 [[sci .i64 h.node,sci .i64 h.state,sci .i64 h.steps,lMs h.inn,lLs h.out]])::kFam [] [] xq cq⟩) (fun _=>0) 0 [] ?_ ?_ ?_
       ·rfl
       ·constructor
        case blks=>
         ((try refine zW ?_);(try with_reducible exact True.intro))
         refine fblks_mem fun q hq=>?_
         have hd:=kF_dom (by decide) (by decide) (by rw [Lxq];omega) (by rw [Lcq];omega) hq
         simp only [List.append_nil,look_skip,dks,hd]
         exact kF_self (by decide)  (by decide)  (by rw [Lxq];omega) hq
        all_goals(try simp (maxSteps:=2000000) (disch:=omega) only [go_sem,simprocAttr,zD,zE,Int.natCast_zero])
       ·rintro w rfl
        (try simp (maxSteps:=2000000) (disch:=omega) only [go_sem,simprocAttr,zD,zE,Int.natCast_zero])
        refine⟨(1,xq,cq), [],⟨by first | decide | (simp only;omega),Gxq,Gcq⟩,by first | decide | (simp only;omega),?_⟩
        constructor
        case blks=>
         ((try refine zW ?_);(try with_reducible exact True.intro))
         refine fblks_mem fun q hq=>?_
         have hd:=kF_dom (by decide) (by decide) (by rw [Lxq];omega) (by rw [Lcq];omega) hq
         simp only [List.append_nil,look_skip,dks,hd]
         exact kF_self (by decide)  (by decide)  (by rw [Lxq];omega) hq
        all_goals((try refine zO ?_);(try with_reducible exact True.intro))
     ·(try simp (maxSteps:=2000000) only [go_sem,simprocAttr,Int.natCast_zero])
      ((try refine zO ?_);(try with_reducible exact True.intro))
      refine walk_floop 200 200 (fun w:Nat × List (Nat × List (Int × Int))=>w.1≤h.inn.length∧good h.inn.length w.2)
       (fun w=>⟨169, [(4, .ptr 1 0 0 0),(7, .ptr 3 0 0 0),(13, .ref 9001 0 0 2),(14,sci .i64 1),(15,sci .i64 w.1)], [],9002,(9001, .arr 5 0 [[sci .i64 0,sci .i64 0,sci .i64 0,lMs [],lLs []], [sci .i64 h.node,sci .i64 stq,sci .i64 (h.steps+1), .ref 5010 h.inn.length 0 h.inn.length, .ref 5011 h.out.length 0 h.out.length]])::(5010, .arr 1 h.inn.length (refsR 6000 w.2))::(5011, .arr 1 h.out.length (refsR 8000 cq))::(3, .arr 5 0 [[sci .i64 h.node,sci .i64 h.state,sci .i64 h.steps,lMs h.inn,lLs h.out]])::(1, .arr 5 0 [[sci .i64 h.node,sci .i64 h.state,sci .i64 h.steps,lMs h.inn,lLs h.out]])::kFam [] [] w.2 cq⟩) (fun w=>h.inn.length - w.1) (0,xq) [] ?_ ?_ ?_
      ·exact⟨Nat.zero_le _,Gxq⟩
      ·constructor
       case blks=>
        ((try refine zW ?_);(try with_reducible exact True.intro))
        refine fblks_mem fun q hq=>?_
        have hd:=kF_dom (by decide) (by decide) (by rw [Lxq];omega) (by rw [Lcq];omega) hq
        simp only [List.append_nil,look_skip,dks,hd]
        exact kF_self (by decide)  (by decide)  (by rw [Lxq];omega) hq
       all_goals(try simp (maxSteps:=2000000) (disch:=omega) only [go_sem,simprocAttr,zD,zE,Int.natCast_zero])
      ·clear Lxq Gxq xq
       rintro⟨k,xq⟩ ⟨k1,Gxq⟩
       simp only at k1 Gxq
       have Lxq:=Gxq.1
       by_cases lk:k < h.inn.length
       ·obtain⟨R,hR⟩: ∃R,((xq[k]?).map fun y=>y.2.length)=some R:=⟨_,by rw [List.getElem?_eq_getElem (by omega)];rfl⟩
        ((try refine zO ?_);(try with_reducible exact True.intro))
        refine walk_floop 200 200 (fun w:Nat × List (Nat × List (Int × Int))=>w.1≤R∧good h.inn.length w.2∧((w.2[k]?).map fun y=>y.2.length)=some R)
         (fun w=>⟨169, [(4, .ptr 1 0 0 0),(7, .ptr 3 0 0 0),(13, .ref 9001 0 0 2),(14,sci .i64 1),(15,sci .i64 k),(16,sci .i64 w.1)], [],9002,(9001, .arr 5 0 [[sci .i64 0,sci .i64 0,sci .i64 0,lMs [],lLs []], [sci .i64 h.node,sci .i64 stq,sci .i64 (h.steps+1), .ref 5010 h.inn.length 0 h.inn.length, .ref 5011 h.out.length 0 h.out.length]])::(5010, .arr 1 h.inn.length (refsR 6000 w.2))::(5011, .arr 1 h.out.length (refsR 8000 cq))::(3, .arr 5 0 [[sci .i64 h.node,sci .i64 h.state,sci .i64 h.steps,lMs h.inn,lLs h.out]])::(1, .arr 5 0 [[sci .i64 h.node,sci .i64 h.state,sci .i64 h.steps,lMs h.inn,lLs h.out]])::kFam [] [] w.2 cq⟩) (fun w=>R - w.1) (0,xq) [] ?_ ?_ ?_
        ·exact⟨Nat.zero_le _,Gxq,hR⟩
        ·constructor
         case blks=>
          ((try refine zW ?_);(try with_reducible exact True.intro))
          refine fblks_mem fun q hq=>?_
          have hd:=kF_dom (by decide) (by decide) (by rw [Lxq];omega) (by rw [Lcq];omega) hq
          simp only [List.append_nil,look_skip,dks,hd]
          exact kF_self (by decide)  (by decide)  (by rw [Lxq];omega) hq
         all_goals(try simp (maxSteps:=2000000) (disch:=omega) only [go_sem,simprocAttr,zD,zE,Int.natCast_zero])
        ·clear hR Lxq Gxq xq
         rintro⟨j,v⟩ ⟨j1,Gv,hR⟩
         simp only at j1 Gv hR
         have Lv:=Gv.1
         have lkv:k < v.length:=by omega
         have hkb:=Gv.2 _ (List.getElem_mem lkv)
         rw [List.getElem?_eq_getElem lkv,Option.map_some] at hR
         have hrg:(refsR 6000 v)[k]? =some [.ref (6000+k) v[k].1 0 v[k].2.length]:=refsR_get lkv
         have hlk:Idl.look (kFam [] [] v cq) (6000+k)=some (.arr 2 v[k].1 (ir eII v[k].2)):=kF_xq (by decide)  (by decide)  (by rw [Lv];omega) lkv
         have hsh:=sh_set (xs:=v) (k:=k) (j:=j) (v:=((99,0):Int × Int)) lkv
         have hdr: ∀t:Int × Int,List.drop 2 (List.map IV.p (eII t))= []:=fun _=>rfl
         generalize hvk:v[k]=o at *
         obtain⟨go,ro⟩:=o
         simp only [Option.some.injEq] at hkb hR hrg hlk hsh
         have e0:(9001=6000+k)=False:=eq_false (by omega)
         have e1:(9000=6000+k)=False:=eq_false (by omega)
         have e2:(5010=6000+k)=False:=eq_false (by omega)
         have e3:(5011=6000+k)=False:=eq_false (by omega)
         have e4:(4=6000+k)=False:=eq_false (by omega)
         have e5:(3=6000+k)=False:=eq_false (by omega)
         have e6:(1=6000+k)=False:=eq_false (by omega)
         have e7:(0=6000+k)=False:=eq_false (by omega)
         have e8:(2=6000+k)=False:=eq_false (by omega)
         have hw:IntKind.i64.wrap ((j:Int)+1)=(j:Int)+1:=w64 (by omega)
         (try simp (maxSteps:=2000000) only [go_sem,simprocAttr,e0,e1,e2,e3,e4,e5,e6,e7,e8,hrg,hlk,hR,lk])
         by_cases lj:j < R
         ·have hir:(ir eII ro).set j [IV.p (.sc (.int .i64 99)),IV.p (.sc (.int .i64 0))]=ir eII (ro.set j (99,0)):=by rw [ir,ir,List.map_set];rfl
          (try simp (maxSteps:=2000000) only [go_sem,simprocAttr,if_pos lj,e0,e1,e2,e3,e4,e5,e6,e7,e8,hrg,hlk,hR,hir,hdr,lj,lk,hw])
          (try simp (maxSteps:=2000000) (disch:=omega) only [go_sem,simprocAttr,zD,zE,e0,e1,e2,e3,e4,e5,e6,e7,e8,hrg,hlk,hR,hir,hdr,lj])
          have hrf:refsR 6000 (v.set k (go,ro.set j (99,0)))=refsR 6000 v:=refsR_sh hsh
          refine⟨(j+1,(v.set k (go,ro.set j (99,0)))), [],⟨lj,⟨by rw [List.length_set];exact Gv.1,fun y hy=>?_⟩,?_⟩,by simp only;omega,?_⟩
          ·rcases List.mem_or_eq_of_mem_set hy with hy | rfl
           ·exact Gv.2 y hy
           ·simp only [List.length_set];omega
          ·simp only [List.getElem?_set_self lkv,Option.map_some,List.length_set,hR]
          ·constructor
           case blks=>
            (try simp (maxSteps:=2000000) (disch:=omega) only [go_sem,simprocAttr,zD,zE,hrf])
            refine fblks_mem fun q hq=>?_
            rcases kF_setxq (by decide) (by decide) (by rw [Lv];omega) (by rw [Lcq];omega) lkv hq with rfl | ⟨hq2,hne⟩
            ·rw [List.append_nil]
             exact look_cons.trans (if_pos rfl)
            ·have hd:=kF_dom (by decide) (by decide) (by rw [Lv];omega) (by rw [Lcq];omega) hq2
             rw [List.append_nil,look_cons,if_neg (fun c=>hne c.symm)]
             simp only [look_skip,dks,hd]
             exact kF_self (by decide)  (by decide)  (by rw [Lv];omega) hq2
           all_goals((try refine zO ?_);(try with_reducible exact True.intro))
         ·obtain rfl:j=R:=by omega
          (try simp (maxSteps:=2000000) (disch:=omega) only [go_sem,simprocAttr,zD,zE,e0,e1,e2,e3,e4,e5,e6,e7,e8,hrg,hlk,hR])
          refine⟨(k+1,v), [],⟨lk,Gv⟩,by simp only;omega,?_⟩
          constructor
          case blks=>
           ((try refine zW ?_);(try with_reducible exact True.intro))
           refine fblks_mem fun q hq=>?_
           have hd:=kF_dom (by decide) (by decide) (by rw [Lv];omega) (by rw [Lcq];omega) hq
           simp only [List.append_nil,look_skip,dks,hd]
           exact kF_self (by decide)  (by decide)  (by rw [Lv];omega) hq
          all_goals((try refine zO ?_);(try with_reducible exact True.intro))
       ·obtain rfl:k=h.inn.length:=by omega
        ((try refine zO ?_);(try with_reducible exact True.intro))
        refine walk_floop 200 200 (fun w:Nat × List (Nat × List (Int))=>w.1≤h.out.length∧good h.out.length w.2)
         (fun w=>⟨169, [(4, .ptr 1 0 0 0),(7, .ptr 3 0 0 0),(13, .ref 9001 0 0 2),(14,sci .i64 1),(17,sci .i64 w.1)], [],9002,(9001, .arr 5 0 [[sci .i64 0,sci .i64 0,sci .i64 0,lMs [],lLs []], [sci .i64 h.node,sci .i64 stq,sci .i64 (h.steps+1), .ref 5010 h.inn.length 0 h.inn.length, .ref 5011 h.out.length 0 h.out.length]])::(5010, .arr 1 h.inn.length (refsR 6000 xq))::(5011, .arr 1 h.out.length (refsR 8000 w.2))::(3, .arr 5 0 [[sci .i64 h.node,sci .i64 h.state,sci .i64 h.steps,lMs h.inn,lLs h.out]])::(1, .arr 5 0 [[sci .i64 h.node,sci .i64 h.state,sci .i64 h.steps,lMs h.inn,lLs h.out]])::kFam [] [] xq w.2⟩) (fun w=>h.out.length - w.1) (0,cq) [] ?_ ?_ ?_
        ·exact⟨Nat.zero_le _,Gcq⟩
        ·constructor
         case blks=>
          ((try refine zW ?_);(try with_reducible exact True.intro))
          refine fblks_mem fun q hq=>?_
          have hd:=kF_dom (by decide) (by decide) (by rw [Lxq];omega) (by rw [Lcq];omega) hq
          simp only [List.append_nil,look_skip,dks,hd]
          exact kF_self (by decide)  (by decide)  (by rw [Lxq];omega) hq
         all_goals(try simp (maxSteps:=2000000) (disch:=omega) only [go_sem,simprocAttr,zD,zE,Int.natCast_zero])
        ·clear Lcq Gcq cq
         rintro⟨k,cq⟩ ⟨k1,Gcq⟩
         simp only at k1 Gcq
         have Lcq:=Gcq.1
         by_cases lk:k < h.out.length
         ·obtain⟨R,hR⟩: ∃R,((cq[k]?).map fun y=>y.2.length)=some R:=⟨_,by rw [List.getElem?_eq_getElem (by omega)];rfl⟩
          ((try refine zO ?_);(try with_reducible exact True.intro))
          refine walk_floop 200 200 (fun w:Nat × List (Nat × List (Int))=>w.1≤R∧good h.out.length w.2∧((w.2[k]?).map fun y=>y.2.length)=some R)
           (fun w=>⟨169, [(4, .ptr 1 0 0 0),(7, .ptr 3 0 0 0),(13, .ref 9001 0 0 2),(14,sci .i64 1),(17,sci .i64 k),(18,sci .i64 w.1)], [],9002,(9001, .arr 5 0 [[sci .i64 0,sci .i64 0,sci .i64 0,lMs [],lLs []], [sci .i64 h.node,sci .i64 stq,sci .i64 (h.steps+1), .ref 5010 h.inn.length 0 h.inn.length, .ref 5011 h.out.length 0 h.out.length]])::(5010, .arr 1 h.inn.length (refsR 6000 xq))::(5011, .arr 1 h.out.length (refsR 8000 w.2))::(3, .arr 5 0 [[sci .i64 h.node,sci .i64 h.state,sci .i64 h.steps,lMs h.inn,lLs h.out]])::(1, .arr 5 0 [[sci .i64 h.node,sci .i64 h.state,sci .i64 h.steps,lMs h.inn,lLs h.out]])::kFam [] [] xq w.2⟩) (fun w=>R - w.1) (0,cq) [] ?_ ?_ ?_
          ·exact⟨Nat.zero_le _,Gcq,hR⟩
          ·constructor
           case blks=>
            ((try refine zW ?_);(try with_reducible exact True.intro))
            refine fblks_mem fun q hq=>?_
            have hd:=kF_dom (by decide) (by decide) (by rw [Lxq];omega) (by rw [Lcq];omega) hq
            simp only [List.append_nil,look_skip,dks,hd]
            exact kF_self (by decide)  (by decide)  (by rw [Lxq];omega) hq
           all_goals(try simp (maxSteps:=2000000) (disch:=omega) only [go_sem,simprocAttr,zD,zE,Int.natCast_zero])
          ·clear hR Lcq Gcq cq
           rintro⟨j,v⟩ ⟨j1,Gv,hR⟩
           simp only at j1 Gv hR
           have Lv:=Gv.1
           have lkv:k < v.length:=by omega
           have hkb:=Gv.2 _ (List.getElem_mem lkv)
           rw [List.getElem?_eq_getElem lkv,Option.map_some] at hR
           have hrg:(refsR 8000 v)[k]? =some [.ref (8000+k) v[k].1 0 v[k].2.length]:=refsR_get lkv
           have hlk:Idl.look (kFam [] [] xq v) (8000+k)=some (.arr 1 v[k].1 (ir eI v[k].2)):=kF_cq (by decide)  (by decide)  (by rw [Lxq];omega) lkv
           have hsh:=sh_set (xs:=v) (k:=k) (j:=j) (v:=(99:Int)) lkv
           have hdr: ∀t:Int,List.drop 1 (List.map IV.p (eI t))= []:=fun _=>rfl
           generalize hvk:v[k]=o at *
           obtain⟨go,ro⟩:=o
           simp only [Option.some.injEq] at hkb hR hrg hlk hsh
           have e0:(9001=8000+k)=False:=eq_false (by omega)
           have e1:(9000=8000+k)=False:=eq_false (by omega)
           have e2:(5010=8000+k)=False:=eq_false (by omega)
           have e3:(5011=8000+k)=False:=eq_false (by omega)
           have e4:(4=8000+k)=False:=eq_false (by omega)
           have e5:(3=8000+k)=False:=eq_false (by omega)
           have e6:(1=8000+k)=False:=eq_false (by omega)
           have e7:(0=8000+k)=False:=eq_false (by omega)
           have e8:(2=8000+k)=False:=eq_false (by omega)
           have hw:IntKind.i64.wrap ((j:Int)+1)=(j:Int)+1:=w64 (by omega)
           (try simp (maxSteps:=2000000) only [go_sem,simprocAttr,e0,e1,e2,e3,e4,e5,e6,e7,e8,hrg,hlk,hR,lk])
           by_cases lj:j < R
           ·have hir:(ir eI ro).set j [IV.p (.sc (.int .i64 99))]=ir eI (ro.set j 99):=by rw [ir,ir,List.map_set];rfl
            (try simp (maxSteps:=2000000) only [go_sem,simprocAttr,if_pos lj,e0,e1,e2,e3,e4,e5,e6,e7,e8,hrg,hlk,hR,hir,hdr,lj,lk,hw])
            (try simp (maxSteps:=2000000) (disch:=omega) only [go_sem,simprocAttr,zD,zE,e0,e1,e2,e3,e4,e5,e6,e7,e8,hrg,hlk,hR,hir,hdr,lj])
            have hrf:refsR 8000 (v.set k (go,ro.set j 99))=refsR 8000 v:=refsR_sh hsh
            refine⟨(j+1,(v.set k (go,ro.set j 99))), [],⟨lj,⟨by rw [List.length_set];exact Gv.1,fun y hy=>?_⟩,?_⟩,by simp only;omega,?_⟩
            ·rcases List.mem_or_eq_of_mem_set hy with hy | rfl
             ·exact Gv.2 y hy
             ·simp only [List.length_set];omega
            ·simp only [List.getElem?_set_self lkv,Option.map_some,List.length_set,hR]
            ·constructor
             case blks=>
              (try simp (maxSteps:=2000000) (disch:=omega) only [go_sem,simprocAttr,zD,zE,hrf])
              refine fblks_mem fun q hq=>?_
              rcases kF_setcq (by decide) (by decide) (by rw [Lxq];omega) (by rw [Lv];omega) lkv hq with rfl | ⟨hq2,hne⟩
              ·rw [List.append_nil]
               exact look_cons.trans (if_pos rfl)
              ·have hd:=kF_dom (by decide) (by decide) (by rw [Lxq];omega) (by rw [Lv];omega) hq2
               rw [List.append_nil,look_cons,if_neg (fun c=>hne c.symm)]
               simp only [look_skip,dks,hd]
               exact kF_self (by decide)  (by decide)  (by rw [Lxq];omega) hq2
             all_goals((try refine zO ?_);(try with_reducible exact True.intro))
           ·obtain rfl:j=R:=by omega
            (try simp (maxSteps:=2000000) (disch:=omega) only [go_sem,simprocAttr,zD,zE,e0,e1,e2,e3,e4,e5,e6,e7,e8,hrg,hlk,hR])
            refine⟨(k+1,v), [],⟨lk,Gv⟩,by simp only;omega,?_⟩
            constructor
            case blks=>
             ((try refine zW ?_);(try with_reducible exact True.intro))
             refine fblks_mem fun q hq=>?_
             have hd:=kF_dom (by decide) (by decide) (by rw [Lxq];omega) (by rw [Lv];omega) hq
             simp only [List.append_nil,look_skip,dks,hd]
             exact kF_self (by decide)  (by decide)  (by rw [Lxq];omega) hq
            all_goals((try refine zO ?_);(try with_reducible exact True.intro))
         ·obtain rfl:k=h.out.length:=by omega
          ((try refine zO ?_);(try with_reducible exact True.intro))
          refine⟨(2,xq,cq), [],⟨by first | decide | (simp only;omega),Gxq,Gcq⟩,by first | decide | (simp only;omega),?_⟩
          constructor
          case blks=>
           ((try refine zW ?_);(try with_reducible exact True.intro))
           refine fblks_mem fun q hq=>?_
           have hd:=kF_dom (by decide) (by decide) (by rw [Lxq];omega) (by rw [Lcq];omega) hq
           simp only [List.append_nil,look_skip,dks,hd]
           exact kF_self (by decide)  (by decide)  (by rw [Lxq];omega) hq
          all_goals((try refine zO ?_);(try with_reducible exact True.intro))
     ·(try simp (maxSteps:=2000000) only [go_sem,simprocAttr,Int.natCast_zero])
      ((try refine zO ?_);(try with_reducible exact True.intro))
      refine walk_fcut 200 [] ⟨169, [(135,lHs h),(4, .ptr 1 0 0 0),(7, .ptr 3 0 0 0)], [],4, [(3, .arr 5 0 [[sci .i64 h.node,sci .i64 h.state,sci .i64 h.steps,lMs h.inn,lLs h.out]]),(1, .arr 5 0 [[sci .i64 h.node,sci .i64 h.state,sci .i64 h.steps,lMs h.inn,lLs h.out]])]⟩ trivial ?_ ?_
      ·constructor<;>((try refine zO ?_);(try with_reducible exact True.intro))
      obtain⟨X,hX⟩: ∃X:List Int,X=h.out.map fun l=>(l.length:Int):=⟨_,rfl⟩
      have hSF:=PieceFF_blk h f.gHs hX rfl
      rw [ffW_gfW] at hSF
      have hfi:=freshF_len h.inn
      have hfo:=freshF_len h.out
      have Si: ∀t u,t < 2+h.inn.length+h.out.length→u < 2+h.inn.length+h.out.length→νG 100 1000 101 3000 h.inn.length t=νG 100 1000 101 3000 h.inn.length u→t=u:=fun t u ht hu e=>νG_inj (by decide) (by decide) (by omega) ht hu e
      have Sb: ∀t,t < 2+h.inn.length+h.out.length→4≤νG 100 1000 101 3000 h.inn.length t∧νG 100 1000 101 3000 h.inn.length t < 5000:=fun t ht=>by have:=νG_bd (o1:=100) (k1:=1000) (o2:=101) (k2:=3000) (n:=5000) (by decide) (by decide) (by omega) (by omega) ht;omega
      have S0:νG 100 1000 101 3000 h.inn.length 0=100:=rfl
      have S1:νG 100 1000 101 3000 h.inn.length (1+h.inn.length)=101:=by unfold νG;rw [if_neg (by omega),if_neg (by omega),if_pos rfl]
      have SW:=νG_gfW (o1:=100) (k1:=1000) (o2:=101) (k2:=3000) (xs:=freshF h.inn) (cur:=freshF h.out)
      rw [hfi,hfo] at SW
      have Gxp:=good_fresh f.gHs.inns
      have Gcp:=good_fresh f.gHs.outs
      generalize gfW (freshF h.inn) (freshF h.out)=WS at hSF SW
      generalize νG 100 1000 101 3000 h.inn.length=νS at *
      refine at_gN 200 νS 5000 hSF Si Sb (by omega) ?_
      rw [SW]
      generalize freshF h.inn=xp at *
      generalize freshF h.out=cp at *
      have Lxp:=Gxp.1
      have Lcp:=Gcp.1
      (try simp (maxSteps:=2000000) (disch:=omega) only [go_sem,simprocAttr,zD,zE,S0,S1,look_famo,hfi,hfo])
      clear hSF Si Sb S0 S1 SW hfi hfo
      refine walk_floop 200 200 (fun w:Nat × List (Nat × List (Int × Int))=>w.1≤h.inn.length∧good h.inn.length w.2)
       (fun w=>⟨169, [(4, .ptr 1 0 0 0),(7, .ptr 3 0 0 0),(19, .ptr 5000 0 0 0),(20,sci .i64 w.1)], [],5001,(5000, .arr 6 0 [[sci .i64 h.node,sci .i64 h.state,sci .i64 h.steps,lI X, .ref 100 h.inn.length 0 h.inn.length, .ref 101 h.out.length 0 h.out.length]])::(100, .arr 1 h.inn.length (refsR 1000 w.2))::(101, .arr 1 h.out.length (refsR 3000 cp))::(3, .arr 5 0 [[sci .i64 h.node,sci .i64 h.state,sci .i64 h.steps,lMs h.inn,lLs h.out]])::(1, .arr 5 0 [[sci .i64 h.node,sci .i64 h.state,sci .i64 h.steps,lMs h.inn,lLs h.out]])::kFam w.2 cp [] []⟩) (fun w=>h.inn.length - w.1) (0,xp) [] ?_ ?_ ?_
      ·exact⟨Nat.zero_le _,Gxp⟩
      ·constructor
       case blks=>
        (try simp (maxSteps:=2000000) (disch:=omega) only [go_sem,simprocAttr,zD,zE,look_famo,Lxp,Lcp])
        refine fblks_mem fun q hq=>?_
        rcases kF_cases hq with ⟨t,ht,rfl⟩ | ⟨t,ht,rfl⟩ | ⟨t,ht,rfl⟩ | ⟨t,ht,rfl⟩
        ·have ht2:=ht
         rw [Lxp] at ht2
         have e0:(5000=1000+t)=False:=eq_false (by omega)
         have e1:(100=1000+t)=False:=eq_false (by omega)
         have e2:(101=1000+t)=False:=eq_false (by omega)
         have e3:(3=1000+t)=False:=eq_false (by omega)
         have e4:(1=1000+t)=False:=eq_false (by omega)
         have hk:=look_fam (sz:=2) (e:=eII) (k:=1000) (r:= []) ht
         rw [List.append_nil] at hk
         (try simp (maxSteps:=2000000) (disch:=omega) only [go_sem,simprocAttr,zD,zE,e0,e1,e2,e3,e4,look_famo,Lxp,Lcp,look_fam ht,hk])
        ·have ht2:=ht
         rw [Lcp] at ht2
         have e0:(5000=3000+t)=False:=eq_false (by omega)
         have e1:(100=3000+t)=False:=eq_false (by omega)
         have e2:(101=3000+t)=False:=eq_false (by omega)
         have e3:(3=3000+t)=False:=eq_false (by omega)
         have e4:(1=3000+t)=False:=eq_false (by omega)
         have hk:=look_fam (sz:=1) (e:=eI) (k:=3000) (r:= []) ht
         rw [List.append_nil] at hk
         (try simp (maxSteps:=2000000) (disch:=omega) only [go_sem,simprocAttr,zD,zE,e0,e1,e2,e3,e4,look_famo,Lxp,Lcp,look_fam ht,hk])
        ·simp at ht
        ·simp at ht
       all_goals(try simp (maxSteps:=2000000) (disch:=omega) only [go_sem,simprocAttr,zD,zE,Int.natCast_zero])
      ·clear Lxp Gxp xp
       rintro⟨k,xp⟩ ⟨k1,Gxp⟩
       simp only at k1 Gxp
       have Lxp:=Gxp.1
       by_cases lk:k < h.inn.length
       ·obtain⟨R,hR⟩: ∃R,((xp[k]?).map fun y=>y.2.length)=some R:=⟨_,by rw [List.getElem?_eq_getElem (by omega)];rfl⟩
        ((try refine zO ?_);(try with_reducible exact True.intro))
        refine walk_floop 200 200 (fun w:Nat × List (Nat × List (Int × Int))=>w.1≤R∧good h.inn.length w.2∧((w.2[k]?).map fun y=>y.2.length)=some R)
         (fun w=>⟨169, [(4, .ptr 1 0 0 0),(7, .ptr 3 0 0 0),(19, .ptr 5000 0 0 0),(20,sci .i64 k),(21,sci .i64 w.1)], [],5001,(5000, .arr 6 0 [[sci .i64 h.node,sci .i64 h.state,sci .i64 h.steps,lI X, .ref 100 h.inn.length 0 h.inn.length, .ref 101 h.out.length 0 h.out.length]])::(100, .arr 1 h.inn.length (refsR 1000 w.2))::(101, .arr 1 h.out.length (refsR 3000 cp))::(3, .arr 5 0 [[sci .i64 h.node,sci .i64 h.state,sci .i64 h.steps,lMs h.inn,lLs h.out]])::(1, .arr 5 0 [[sci .i64 h.node,sci .i64 h.state,sci .i64 h.steps,lMs h.inn,lLs h.out]])::kFam w.2 cp [] []⟩) (fun w=>R - w.1) (0,xp) [] ?_ ?_ ?_
        ·exact⟨Nat.zero_le _,Gxp,hR⟩
        ·constructor
         case blks=>
          ((try refine zW ?_);(try with_reducible exact True.intro))
          refine fblks_mem fun q hq=>?_
          have hd:=kF_dom (by rw [Lxp];omega) (by rw [Lcp];omega) (by decide) (by decide) hq
          simp only [List.append_nil,look_skip,dks,hd]
          exact kF_self (by rw [Lxp];omega)  (by rw [Lcp];omega)  (by decide) hq
         all_goals(try simp (maxSteps:=2000000) (disch:=omega) only [go_sem,simprocAttr,zD,zE,Int.natCast_zero])
        ·clear hR Lxp Gxp xp
         rintro⟨j,v⟩ ⟨j1,Gv,hR⟩
         simp only at j1 Gv hR
         have Lv:=Gv.1
         have lkv:k < v.length:=by omega
         have hkb:=Gv.2 _ (List.getElem_mem lkv)
         rw [List.getElem?_eq_getElem lkv,Option.map_some] at hR
         have hrg:(refsR 1000 v)[k]? =some [.ref (1000+k) v[k].1 0 v[k].2.length]:=refsR_get lkv
         have hlk:Idl.look (kFam v cp [] []) (1000+k)=some (.arr 2 v[k].1 (ir eII v[k].2)):=kF_xp (by rw [Lv];omega) lkv
         have hsh:=sh_set (xs:=v) (k:=k) (j:=j) (v:=((98,0):Int × Int)) lkv
         have hdr: ∀t:Int × Int,List.drop 2 (List.map IV.p (eII t))= []:=fun _=>rfl
         generalize hvk:v[k]=o at *
         obtain⟨go,ro⟩:=o
         simp only [Option.some.injEq] at hkb hR hrg hlk hsh
         have e0:(5000=1000+k)=False:=eq_false (by omega)
         have e1:(100=1000+k)=False:=eq_false (by omega)
         have e2:(101=1000+k)=False:=eq_false (by omega)
         have e3:(3=1000+k)=False:=eq_false (by omega)
         have e4:(1=1000+k)=False:=eq_false (by omega)
         have hw:IntKind.i64.wrap ((j:Int)+1)=(j:Int)+1:=w64 (by omega)
         (try simp (maxSteps:=2000000) only [go_sem,simprocAttr,e0,e1,e2,e3,e4,hrg,hlk,hR,lk])
         by_cases lj:j < R
         ·have hir:(ir eII ro).set j [IV.p (.sc (.int .i64 98)),IV.p (.sc (.int .i64 0))]=ir eII (ro.set j (98,0)):=by rw [ir,ir,List.map_set];rfl
          (try simp (maxSteps:=2000000) only [go_sem,simprocAttr,if_pos lj,e0,e1,e2,e3,e4,hrg,hlk,hR,hir,hdr,lj,lk,hw])
          (try simp (maxSteps:=2000000) (disch:=omega) only [go_sem,simprocAttr,zD,zE,e0,e1,e2,e3,e4,hrg,hlk,hR,hir,hdr,lj])
          have hrf:refsR 1000 (v.set k (go,ro.set j (98,0)))=refsR 1000 v:=refsR_sh hsh
          refine⟨(j+1,(v.set k (go,ro.set j (98,0)))), [],⟨lj,⟨by rw [List.length_set];exact Gv.1,fun y hy=>?_⟩,?_⟩,by simp only;omega,?_⟩
          ·rcases List.mem_or_eq_of_mem_set hy with hy | rfl
           ·exact Gv.2 y hy
           ·simp only [List.length_set];omega
          ·simp only [List.getElem?_set_self lkv,Option.map_some,List.length_set,hR]
          ·constructor
           case blks=>
            (try simp (maxSteps:=2000000) (disch:=omega) only [go_sem,simprocAttr,zD,zE,hrf])
            refine fblks_mem fun q hq=>?_
            rcases kF_setxp (by rw [Lv];omega) (by rw [Lcp];omega) (by decide) (by decide) lkv hq with rfl | ⟨hq2,hne⟩
            ·rw [List.append_nil]
             exact look_cons.trans (if_pos rfl)
            ·have hd:=kF_dom (by rw [Lv];omega) (by rw [Lcp];omega) (by decide) (by decide) hq2
             rw [List.append_nil,look_cons,if_neg (fun c=>hne c.symm)]
             simp only [look_skip,dks,hd]
             exact kF_self (by rw [Lv];omega)  (by rw [Lcp];omega)  (by decide) hq2
           all_goals((try refine zO ?_);(try with_reducible exact True.intro))
         ·obtain rfl:j=R:=by omega
          (try simp (maxSteps:=2000000) (disch:=omega) only [go_sem,simprocAttr,zD,zE,e0,e1,e2,e3,e4,hrg,hlk,hR])
          refine⟨(k+1,v), [],⟨lk,Gv⟩,by simp only;omega,?_⟩
          constructor
          case blks=>
           ((try refine zW ?_);(try with_reducible exact True.intro))
           refine fblks_mem fun q hq=>?_
           have hd:=kF_dom (by rw [Lv];omega) (by rw [Lcp];omega) (by decide) (by decide) hq
           simp only [List.append_nil,look_skip,dks,hd]
           exact kF_self (by rw [Lv];omega)  (by rw [Lcp];omega)  (by decide) hq
          all_goals((try refine zO ?_);(try with_reducible exact True.intro))
       ·obtain rfl:k=h.inn.length:=by omega
        ((try refine zO ?_);(try with_reducible exact True.intro))
        (refine walk_trim [4,7] trivial zL ?_;(refine zW ?_;try with_reducible exact True.intro);refine irun_walk (id:=34) (n:=200) [none,some [2],none,some [],none,some [],none,none] mixed (by kernel_rfl) ?_)
        ((try refine zW ?_);(try with_reducible exact True.intro))
        (refine at_dcall ?_;(refine zW ?_;try with_reducible exact True.intro);refine callA_of (L9Ref_spec h) zB ?_;((try refine zW ?_);(try with_reducible exact True.intro)))
        ((try refine zW ?_);(try with_reducible exact True.intro))
        (refine at_dcall ?_;(refine zW ?_;try with_reducible exact True.intro);refine callA_of (R9SameR_spec h f.gHs) zB ?_;((try refine zW ?_);(try with_reducible exact True.intro)))
        ((try refine zW ?_);(try with_reducible exact True.intro))
        (refine at_dcall ?_;(refine zW ?_;try with_reducible exact True.intro);refine callA_of (fixed_spec) zB ?_;((try refine zW ?_);(try with_reducible exact True.intro)))
        ((try refine zW ?_);(try with_reducible exact True.intro))
  ·obtain⟨cp,hgoF,hcp,hcl⟩:=pkGoF_of (cur:=freshF h.out) (sent:= []) (r:=(out',S)) (fun y hy=>((f.picks p (List.mem_of_getElem? hpk)).2.2 y hy).1) (by rw [hfo];exact f.outl) (by rw [show(freshF h.out).map (·.2)=h.out by rw [freshF,List.map_map];exact List.map_id' _];exact hgo)
   have hPF:=PickFF_blk ⟨N,ls,T,ff,room,acts⟩ h k n j nd st f.hn f.hj f.hx f.hq hg kl (fun p hp=>⟨by have:=(f.picks p hp).2.1;omega,fun y hy=>((f.picks p hp).2.2 y hy).1⟩) f.outl f.st0 hm hk0 hpk hgoF (by rw [hcl,hfo]) rfl
   simp only at hPF
   rw [pfW_gfW] at hPF
   have Pi: ∀t u,t < 2+h.inn.length+h.out.length→u < 2+h.inn.length+h.out.length→νG 100 1000 101 3000 h.inn.length t=νG 100 1000 101 3000 h.inn.length u→t=u:=fun t u ht hu e=>νG_inj (by decide) (by decide) (by omega) ht hu e
   have Pb: ∀t,t < 2+h.inn.length+h.out.length→4≤νG 100 1000 101 3000 h.inn.length t∧νG 100 1000 101 3000 h.inn.length t < 5000:=fun t ht=>by have:=νG_bd (o1:=100) (k1:=1000) (o2:=101) (k2:=3000) (n:=5000) (by decide) (by decide) (by omega) (by omega) ht;omega
   have P0:νG 100 1000 101 3000 h.inn.length 0=100:=rfl
   have P1:νG 100 1000 101 3000 h.inn.length (1+h.inn.length)=101:=by unfold νG;rw [if_neg (by omega),if_neg (by omega),if_pos rfl]
   have PW:=νG_gfW (o1:=100) (k1:=1000) (o2:=101) (k2:=3000) (xs:=freshF h.inn) (cur:=cp)
   rw [hfi,hcl,hfo] at PW
   generalize gfW (freshF h.inn) cp=WP at hPF PW
   generalize νG 100 1000 101 3000 h.inn.length=νP at *
   refine at_gN 200 νP 5000 hPF Pi Pb (by omega) ?_
   rw [PW]
   (try simp (maxSteps:=2000000) (disch:=omega) only [go_sem,simprocAttr,zD,zE,P0,P1,look_famo,hfi,hcl,hfo])
   have Gxp:=good_fresh f.gHs.inns
   have Gcp:good h.out.length cp:=⟨by rw [hcl,hfo],fun y hy=>by
    have hcl5:=(pkGo_lets (fun y hy=>((f.picks p (List.mem_of_getElem? hpk)).2.2 y hy).2) f.lets hgo).1
    have h1:cp.map (·.2)=out':=hcp
    have:y.2∈out':=by rw [←h1];exact List.mem_map.2 ⟨y,hy,rfl⟩
    have:=(hcl5 _ this).1
    omega⟩
   generalize freshF h.inn=xp at *
   have Lxp:=Gxp.1
   have Lcp:=Gcp.1
   rcases takeH_cases2 (ls:=ls) (st:=st) (h:=h) (x:=x) (m:=(m1,m2)) with eT | hT2
   ·rw [eT] at hKe
    (refine at_call 200 ?_;(refine zW ?_;try with_reducible exact True.intro);refine callA_of (hKe) zB ?_;((try refine zW ?_);(try with_reducible exact True.intro)))
    (try simp (maxSteps:=2000000) (disch:=omega) only [go_sem,simprocAttr,zD,zE,zH])
    refine walk_floop 200 200 (fun i:Nat × List (Nat × List (Int × Int)) × List (Nat × List (Int))=>i.1≤2∧good h.inn.length i.2.1∧good h.out.length i.2.2)
     (fun i=>⟨169, [(4, .ptr 1 0 0 0),(7, .ptr 3 0 0 0),(13, .ref 5002 0 0 2),(14,sci .i64 i.1)], [],5003,(5002, .arr 5 0 [[sci .i64 h.node,sci .i64 p.1,sci .i64 (h.steps+1), .ref 100 h.inn.length 0 h.inn.length, .ref 101 h.out.length 0 h.out.length], [sci .i64 0,sci .i64 0,sci .i64 0,lMs [],lLs []]])::(100, .arr 1 h.inn.length (refsR 1000 i.2.1))::(101, .arr 1 h.out.length (refsR 3000 i.2.2))::(3, .arr 5 0 [[sci .i64 h.node,sci .i64 h.state,sci .i64 h.steps,lMs h.inn,lLs h.out]])::(1, .arr 5 0 [[sci .i64 h.node,sci .i64 h.state,sci .i64 h.steps,lMs h.inn,lLs h.out]])::kFam i.2.1 i.2.2 [] []⟩) (fun i=>2 - i.1) (0,xp,cp) [] ?_ ?_ ?_
    ·exact⟨Nat.zero_le _,Gxp,Gcp⟩
    ·constructor
     case blks=>
      (try simp (maxSteps:=2000000) (disch:=omega) only [go_sem,simprocAttr,zD,zE,look_famo,Lxp,Lcp,hfi,hfo])
      refine fblks_mem fun q hq=>?_
      rcases kF_cases hq with ⟨t,ht,rfl⟩ | ⟨t,ht,rfl⟩ | ⟨t,ht,rfl⟩ | ⟨t,ht,rfl⟩
      ·have ht2:=ht
       rw [Lxp] at ht2
       have e0:(5002=1000+t)=False:=eq_false (by omega)
       have e1:(5001=1000+t)=False:=eq_false (by omega)
       have e2:(5000=1000+t)=False:=eq_false (by omega)
       have e3:(100=1000+t)=False:=eq_false (by omega)
       have e4:(101=1000+t)=False:=eq_false (by omega)
       have e5:(3=1000+t)=False:=eq_false (by omega)
       have e6:(1=1000+t)=False:=eq_false (by omega)
       have e7:(0=1000+t)=False:=eq_false (by omega)
       have e8:(2=1000+t)=False:=eq_false (by omega)
       have hk:=look_fam (sz:=2) (e:=eII) (k:=1000) (r:= []) ht
       rw [List.append_nil] at hk
       (try simp (maxSteps:=2000000) (disch:=omega) only [go_sem,simprocAttr,zD,zE,e0,e1,e2,e3,e4,e5,e6,e7,e8,look_famo,Lxp,Lcp,look_fam ht,hk])
      ·have ht2:=ht
       rw [Lcp] at ht2
       have e0:(5002=3000+t)=False:=eq_false (by omega)
       have e1:(5001=3000+t)=False:=eq_false (by omega)
       have e2:(5000=3000+t)=False:=eq_false (by omega)
       have e3:(100=3000+t)=False:=eq_false (by omega)
       have e4:(101=3000+t)=False:=eq_false (by omega)
       have e5:(3=3000+t)=False:=eq_false (by omega)
       have e6:(1=3000+t)=False:=eq_false (by omega)
       have e7:(0=3000+t)=False:=eq_false (by omega)
       have e8:(2=3000+t)=False:=eq_false (by omega)
       have hk:=look_fam (sz:=1) (e:=eI) (k:=3000) (r:= []) ht
       rw [List.append_nil] at hk
       (try simp (maxSteps:=2000000) (disch:=omega) only [go_sem,simprocAttr,zD,zE,e0,e1,e2,e3,e4,e5,e6,e7,e8,look_famo,Lxp,Lcp,look_fam ht,hk])
      ·simp at ht
      ·simp at ht
     all_goals(try simp (maxSteps:=2000000) (disch:=omega) only [go_sem,simprocAttr,zD,zE,Int.natCast_zero])
    ·clear hPe hKe k8 kl ko hkt hn' hj' hfi hfo hm hk0 hpk hgo hgoF hcp hPF Pi Pb P0 P1 PW
     rintro⟨i,xp,cp⟩ ⟨i1,Gxp,Gcp⟩
     simp only at i1 Gxp Gcp
     have Lxp:=Gxp.1
     have Lcp:=Gcp.1
     rcases (show i=0∨i=1∨i=2 by omega) with rfl | rfl | rfl
     ·(try simp (maxSteps:=2000000) only [go_sem,simprocAttr,Int.natCast_zero])
      ((try refine zO ?_);(try with_reducible exact True.intro))
      refine walk_floop 200 200 (fun w:Nat × List (Nat × List (Int × Int))=>w.1≤h.inn.length∧good h.inn.length w.2)
       (fun w=>⟨169, [(4, .ptr 1 0 0 0),(7, .ptr 3 0 0 0),(13, .ref 5002 0 0 2),(14,sci .i64 0),(15,sci .i64 w.1)], [],5003,(5002, .arr 5 0 [[sci .i64 h.node,sci .i64 p.1,sci .i64 (h.steps+1), .ref 100 h.inn.length 0 h.inn.length, .ref 101 h.out.length 0 h.out.length], [sci .i64 0,sci .i64 0,sci .i64 0,lMs [],lLs []]])::(100, .arr 1 h.inn.length (refsR 1000 w.2))::(101, .arr 1 h.out.length (refsR 3000 cp))::(3, .arr 5 0 [[sci .i64 h.node,sci .i64 h.state,sci .i64 h.steps,lMs h.inn,lLs h.out]])::(1, .arr 5 0 [[sci .i64 h.node,sci .i64 h.state,sci .i64 h.steps,lMs h.inn,lLs h.out]])::kFam w.2 cp [] []⟩) (fun w=>h.inn.length - w.1) (0,xp) [] ?_ ?_ ?_
      ·exact⟨Nat.zero_le _,Gxp⟩
      ·constructor
       case blks=>
        ((try refine zW ?_);(try with_reducible exact True.intro))
        refine fblks_mem fun q hq=>?_
        have hd:=kF_dom (by rw [Lxp];omega) (by rw [Lcp];omega) (by decide) (by decide) hq
        simp only [List.append_nil,look_skip,dks,hd]
        exact kF_self (by rw [Lxp];omega)  (by rw [Lcp];omega)  (by decide) hq
       all_goals(try simp (maxSteps:=2000000) (disch:=omega) only [go_sem,simprocAttr,zD,zE,Int.natCast_zero])
      ·clear Lxp Gxp xp
       rintro⟨k,xp⟩ ⟨k1,Gxp⟩
       simp only at k1 Gxp
       have Lxp:=Gxp.1
       by_cases lk:k < h.inn.length
       ·obtain⟨R,hR⟩: ∃R,((xp[k]?).map fun y=>y.2.length)=some R:=⟨_,by rw [List.getElem?_eq_getElem (by omega)];rfl⟩
        ((try refine zO ?_);(try with_reducible exact True.intro))
        refine walk_floop 200 200 (fun w:Nat × List (Nat × List (Int × Int))=>w.1≤R∧good h.inn.length w.2∧((w.2[k]?).map fun y=>y.2.length)=some R)
         (fun w=>⟨169, [(4, .ptr 1 0 0 0),(7, .ptr 3 0 0 0),(13, .ref 5002 0 0 2),(14,sci .i64 0),(15,sci .i64 k),(16,sci .i64 w.1)], [],5003,(5002, .arr 5 0 [[sci .i64 h.node,sci .i64 p.1,sci .i64 (h.steps+1), .ref 100 h.inn.length 0 h.inn.length, .ref 101 h.out.length 0 h.out.length], [sci .i64 0,sci .i64 0,sci .i64 0,lMs [],lLs []]])::(100, .arr 1 h.inn.length (refsR 1000 w.2))::(101, .arr 1 h.out.length (refsR 3000 cp))::(3, .arr 5 0 [[sci .i64 h.node,sci .i64 h.state,sci .i64 h.steps,lMs h.inn,lLs h.out]])::(1, .arr 5 0 [[sci .i64 h.node,sci .i64 h.state,sci .i64 h.steps,lMs h.inn,lLs h.out]])::kFam w.2 cp [] []⟩) (fun w=>R - w.1) (0,xp) [] ?_ ?_ ?_
        ·exact⟨Nat.zero_le _,Gxp,hR⟩
        ·constructor
         case blks=>
          ((try refine zW ?_);(try with_reducible exact True.intro))
          refine fblks_mem fun q hq=>?_
          have hd:=kF_dom (by rw [Lxp];omega) (by rw [Lcp];omega) (by decide) (by decide) hq
          simp only [List.append_nil,look_skip,dks,hd]
          exact kF_self (by rw [Lxp];omega)  (by rw [Lcp];omega)  (by decide) hq
         all_goals(try simp (maxSteps:=2000000) (disch:=omega) only [go_sem,simprocAttr,zD,zE,Int.natCast_zero])
        ·clear hR Lxp Gxp xp
         rintro⟨j,v⟩ ⟨j1,Gv,hR⟩
         simp only at j1 Gv hR
         have Lv:=Gv.1
         have lkv:k < v.length:=by omega
         have hkb:=Gv.2 _ (List.getElem_mem lkv)
         rw [List.getElem?_eq_getElem lkv,Option.map_some] at hR
         have hrg:(refsR 1000 v)[k]? =some [.ref (1000+k) v[k].1 0 v[k].2.length]:=refsR_get lkv
         have hlk:Idl.look (kFam v cp [] []) (1000+k)=some (.arr 2 v[k].1 (ir eII v[k].2)):=kF_xp (by rw [Lv];omega) lkv
         have hsh:=sh_set (xs:=v) (k:=k) (j:=j) (v:=((99,0):Int × Int)) lkv
         have hdr: ∀t:Int × Int,List.drop 2 (List.map IV.p (eII t))= []:=fun _=>rfl
         generalize hvk:v[k]=o at *
         obtain⟨go,ro⟩:=o
         simp only [Option.some.injEq] at hkb hR hrg hlk hsh
         have e0:(5002=1000+k)=False:=eq_false (by omega)
         have e1:(5001=1000+k)=False:=eq_false (by omega)
         have e2:(5000=1000+k)=False:=eq_false (by omega)
         have e3:(100=1000+k)=False:=eq_false (by omega)
         have e4:(101=1000+k)=False:=eq_false (by omega)
         have e5:(3=1000+k)=False:=eq_false (by omega)
         have e6:(1=1000+k)=False:=eq_false (by omega)
         have e7:(0=1000+k)=False:=eq_false (by omega)
         have e8:(2=1000+k)=False:=eq_false (by omega)
         have hw:IntKind.i64.wrap ((j:Int)+1)=(j:Int)+1:=w64 (by omega)
         (try simp (maxSteps:=2000000) only [go_sem,simprocAttr,e0,e1,e2,e3,e4,e5,e6,e7,e8,hrg,hlk,hR,lk])
         by_cases lj:j < R
         ·have hir:(ir eII ro).set j [IV.p (.sc (.int .i64 99)),IV.p (.sc (.int .i64 0))]=ir eII (ro.set j (99,0)):=by rw [ir,ir,List.map_set];rfl
          (try simp (maxSteps:=2000000) only [go_sem,simprocAttr,if_pos lj,e0,e1,e2,e3,e4,e5,e6,e7,e8,hrg,hlk,hR,hir,hdr,lj,lk,hw])
          (try simp (maxSteps:=2000000) (disch:=omega) only [go_sem,simprocAttr,zD,zE,e0,e1,e2,e3,e4,e5,e6,e7,e8,hrg,hlk,hR,hir,hdr,lj])
          have hrf:refsR 1000 (v.set k (go,ro.set j (99,0)))=refsR 1000 v:=refsR_sh hsh
          refine⟨(j+1,(v.set k (go,ro.set j (99,0)))), [],⟨lj,⟨by rw [List.length_set];exact Gv.1,fun y hy=>?_⟩,?_⟩,by simp only;omega,?_⟩
          ·rcases List.mem_or_eq_of_mem_set hy with hy | rfl
           ·exact Gv.2 y hy
           ·simp only [List.length_set];omega
          ·simp only [List.getElem?_set_self lkv,Option.map_some,List.length_set,hR]
          ·constructor
           case blks=>
            (try simp (maxSteps:=2000000) (disch:=omega) only [go_sem,simprocAttr,zD,zE,hrf])
            refine fblks_mem fun q hq=>?_
            rcases kF_setxp (by rw [Lv];omega) (by rw [Lcp];omega) (by decide) (by decide) lkv hq with rfl | ⟨hq2,hne⟩
            ·rw [List.append_nil]
             exact look_cons.trans (if_pos rfl)
            ·have hd:=kF_dom (by rw [Lv];omega) (by rw [Lcp];omega) (by decide) (by decide) hq2
             rw [List.append_nil,look_cons,if_neg (fun c=>hne c.symm)]
             simp only [look_skip,dks,hd]
             exact kF_self (by rw [Lv];omega)  (by rw [Lcp];omega)  (by decide) hq2
           all_goals((try refine zO ?_);(try with_reducible exact True.intro))
         ·obtain rfl:j=R:=by omega
          (try simp (maxSteps:=2000000) (disch:=omega) only [go_sem,simprocAttr,zD,zE,e0,e1,e2,e3,e4,e5,e6,e7,e8,hrg,hlk,hR])
          refine⟨(k+1,v), [],⟨lk,Gv⟩,by simp only;omega,?_⟩
          constructor
          case blks=>
           ((try refine zW ?_);(try with_reducible exact True.intro))
           refine fblks_mem fun q hq=>?_
           have hd:=kF_dom (by rw [Lv];omega) (by rw [Lcp];omega) (by decide) (by decide) hq
           simp only [List.append_nil,look_skip,dks,hd]
           exact kF_self (by rw [Lv];omega)  (by rw [Lcp];omega)  (by decide) hq
          all_goals((try refine zO ?_);(try with_reducible exact True.intro))
       ·obtain rfl:k=h.inn.length:=by omega
        ((try refine zO ?_);(try with_reducible exact True.intro))
        refine walk_floop 200 200 (fun w:Nat × List (Nat × List (Int))=>w.1≤h.out.length∧good h.out.length w.2)
         (fun w=>⟨169, [(4, .ptr 1 0 0 0),(7, .ptr 3 0 0 0),(13, .ref 5002 0 0 2),(14,sci .i64 0),(17,sci .i64 w.1)], [],5003,(5002, .arr 5 0 [[sci .i64 h.node,sci .i64 p.1,sci .i64 (h.steps+1), .ref 100 h.inn.length 0 h.inn.length, .ref 101 h.out.length 0 h.out.length], [sci .i64 0,sci .i64 0,sci .i64 0,lMs [],lLs []]])::(100, .arr 1 h.inn.length (refsR 1000 xp))::(101, .arr 1 h.out.length (refsR 3000 w.2))::(3, .arr 5 0 [[sci .i64 h.node,sci .i64 h.state,sci .i64 h.steps,lMs h.inn,lLs h.out]])::(1, .arr 5 0 [[sci .i64 h.node,sci .i64 h.state,sci .i64 h.steps,lMs h.inn,lLs h.out]])::kFam xp w.2 [] []⟩) (fun w=>h.out.length - w.1) (0,cp) [] ?_ ?_ ?_
        ·exact⟨Nat.zero_le _,Gcp⟩
        ·constructor
         case blks=>
          ((try refine zW ?_);(try with_reducible exact True.intro))
          refine fblks_mem fun q hq=>?_
          have hd:=kF_dom (by rw [Lxp];omega) (by rw [Lcp];omega) (by decide) (by decide) hq
          simp only [List.append_nil,look_skip,dks,hd]
          exact kF_self (by rw [Lxp];omega)  (by rw [Lcp];omega)  (by decide) hq
         all_goals(try simp (maxSteps:=2000000) (disch:=omega) only [go_sem,simprocAttr,zD,zE,Int.natCast_zero])
        ·clear Lcp Gcp cp
         rintro⟨k,cp⟩ ⟨k1,Gcp⟩
         simp only at k1 Gcp
         have Lcp:=Gcp.1
         by_cases lk:k < h.out.length
         ·obtain⟨R,hR⟩: ∃R,((cp[k]?).map fun y=>y.2.length)=some R:=⟨_,by rw [List.getElem?_eq_getElem (by omega)];rfl⟩
          ((try refine zO ?_);(try with_reducible exact True.intro))
          refine walk_floop 200 200 (fun w:Nat × List (Nat × List (Int))=>w.1≤R∧good h.out.length w.2∧((w.2[k]?).map fun y=>y.2.length)=some R)
           (fun w=>⟨169, [(4, .ptr 1 0 0 0),(7, .ptr 3 0 0 0),(13, .ref 5002 0 0 2),(14,sci .i64 0),(17,sci .i64 k),(18,sci .i64 w.1)], [],5003,(5002, .arr 5 0 [[sci .i64 h.node,sci .i64 p.1,sci .i64 (h.steps+1), .ref 100 h.inn.length 0 h.inn.length, .ref 101 h.out.length 0 h.out.length], [sci .i64 0,sci .i64 0,sci .i64 0,lMs [],lLs []]])::(100, .arr 1 h.inn.length (refsR 1000 xp))::(101, .arr 1 h.out.length (refsR 3000 w.2))::(3, .arr 5 0 [[sci .i64 h.node,sci .i64 h.state,sci .i64 h.steps,lMs h.inn,lLs h.out]])::(1, .arr 5 0 [[sci .i64 h.node,sci .i64 h.state,sci .i64 h.steps,lMs h.inn,lLs h.out]])::kFam xp w.2 [] []⟩) (fun w=>R - w.1) (0,cp) [] ?_ ?_ ?_
          ·exact⟨Nat.zero_le _,Gcp,hR⟩
          ·constructor
           case blks=>
            ((try refine zW ?_);(try with_reducible exact True.intro))
            refine fblks_mem fun q hq=>?_
            have hd:=kF_dom (by rw [Lxp];omega) (by rw [Lcp];omega) (by decide) (by decide) hq
            simp only [List.append_nil,look_skip,dks,hd]
            exact kF_self (by rw [Lxp];omega)  (by rw [Lcp];omega)  (by decide) hq
           all_goals(try simp (maxSteps:=2000000) (disch:=omega) only [go_sem,simprocAttr,zD,zE,Int.natCast_zero])
          ·clear hR Lcp Gcp cp
           rintro⟨j,v⟩ ⟨j1,Gv,hR⟩
           simp only at j1 Gv hR
           have Lv:=Gv.1
           have lkv:k < v.length:=by omega
           have hkb:=Gv.2 _ (List.getElem_mem lkv)
           rw [List.getElem?_eq_getElem lkv,Option.map_some] at hR
           have hrg:(refsR 3000 v)[k]? =some [.ref (3000+k) v[k].1 0 v[k].2.length]:=refsR_get lkv
           have hlk:Idl.look (kFam xp v [] []) (3000+k)=some (.arr 1 v[k].1 (ir eI v[k].2)):=kF_cp (by rw [Lxp];omega)  (by rw [Lv];omega) lkv
           have hsh:=sh_set (xs:=v) (k:=k) (j:=j) (v:=(99:Int)) lkv
           have hdr: ∀t:Int,List.drop 1 (List.map IV.p (eI t))= []:=fun _=>rfl
           generalize hvk:v[k]=o at *
           obtain⟨go,ro⟩:=o
           simp only [Option.some.injEq] at hkb hR hrg hlk hsh
           have e0:(5002=3000+k)=False:=eq_false (by omega)
           have e1:(5001=3000+k)=False:=eq_false (by omega)
           have e2:(5000=3000+k)=False:=eq_false (by omega)
           have e3:(100=3000+k)=False:=eq_false (by omega)
           have e4:(101=3000+k)=False:=eq_false (by omega)
           have e5:(3=3000+k)=False:=eq_false (by omega)
           have e6:(1=3000+k)=False:=eq_false (by omega)
           have e7:(0=3000+k)=False:=eq_false (by omega)
           have e8:(2=3000+k)=False:=eq_false (by omega)
           have hw:IntKind.i64.wrap ((j:Int)+1)=(j:Int)+1:=w64 (by omega)
           (try simp (maxSteps:=2000000) only [go_sem,simprocAttr,e0,e1,e2,e3,e4,e5,e6,e7,e8,hrg,hlk,hR,lk])
           by_cases lj:j < R
           ·have hir:(ir eI ro).set j [IV.p (.sc (.int .i64 99))]=ir eI (ro.set j 99):=by rw [ir,ir,List.map_set];rfl
            (try simp (maxSteps:=2000000) only [go_sem,simprocAttr,if_pos lj,e0,e1,e2,e3,e4,e5,e6,e7,e8,hrg,hlk,hR,hir,hdr,lj,lk,hw])
            (try simp (maxSteps:=2000000) (disch:=omega) only [go_sem,simprocAttr,zD,zE,e0,e1,e2,e3,e4,e5,e6,e7,e8,hrg,hlk,hR,hir,hdr,lj])
            have hrf:refsR 3000 (v.set k (go,ro.set j 99))=refsR 3000 v:=refsR_sh hsh
            refine⟨(j+1,(v.set k (go,ro.set j 99))), [],⟨lj,⟨by rw [List.length_set];exact Gv.1,fun y hy=>?_⟩,?_⟩,by simp only;omega,?_⟩
            ·rcases List.mem_or_eq_of_mem_set hy with hy | rfl
             ·exact Gv.2 y hy
             ·simp only [List.length_set];omega
            ·simp only [List.getElem?_set_self lkv,Option.map_some,List.length_set,hR]
            ·constructor
             case blks=>
              (try simp (maxSteps:=2000000) (disch:=omega) only [go_sem,simprocAttr,zD,zE,hrf])
              refine fblks_mem fun q hq=>?_
              rcases kF_setcp (by rw [Lxp];omega) (by rw [Lv];omega) (by decide) (by decide) lkv hq with rfl | ⟨hq2,hne⟩
              ·rw [List.append_nil]
               exact look_cons.trans (if_pos rfl)
              ·have hd:=kF_dom (by rw [Lxp];omega) (by rw [Lv];omega) (by decide) (by decide) hq2
               rw [List.append_nil,look_cons,if_neg (fun c=>hne c.symm)]
               simp only [look_skip,dks,hd]
               exact kF_self (by rw [Lxp];omega)  (by rw [Lv];omega)  (by decide) hq2
             all_goals((try refine zO ?_);(try with_reducible exact True.intro))
           ·obtain rfl:j=R:=by omega
            (try simp (maxSteps:=2000000) (disch:=omega) only [go_sem,simprocAttr,zD,zE,e0,e1,e2,e3,e4,e5,e6,e7,e8,hrg,hlk,hR])
            refine⟨(k+1,v), [],⟨lk,Gv⟩,by simp only;omega,?_⟩
            constructor
            case blks=>
             ((try refine zW ?_);(try with_reducible exact True.intro))
             refine fblks_mem fun q hq=>?_
             have hd:=kF_dom (by rw [Lxp];omega) (by rw [Lv];omega) (by decide) (by decide) hq
             simp only [List.append_nil,look_skip,dks,hd]
             exact kF_self (by rw [Lxp];omega)  (by rw [Lv];omega)  (by decide) hq
            all_goals((try refine zO ?_);(try with_reducible exact True.intro))
         ·obtain rfl:k=h.out.length:=by omega
          ((try refine zO ?_);(try with_reducible exact True.intro))
          refine⟨(1,xp,cp), [],⟨by first | decide | (simp only;omega),Gxp,Gcp⟩,by first | decide | (simp only;omega),?_⟩
          constructor
          case blks=>
           ((try refine zW ?_);(try with_reducible exact True.intro))
           refine fblks_mem fun q hq=>?_
           have hd:=kF_dom (by rw [Lxp];omega) (by rw [Lcp];omega) (by decide) (by decide) hq
           simp only [List.append_nil,look_skip,dks,hd]
           exact kF_self (by rw [Lxp];omega)  (by rw [Lcp];omega)  (by decide) hq
          all_goals((try refine zO ?_);(try with_reducible exact True.intro))
     ·(try simp (maxSteps:=2000000) only [go_sem,simprocAttr,Int.natCast_zero])
      ((try refine zO ?_);(try with_reducible exact True.intro))
      refine walk_floop 200 200 (fun w:Nat=>w=0)
       (fun w=>⟨169, [(4, .ptr 1 0 0 0),(7, .ptr 3 0 0 0),(13, .ref 5002 0 0 2),(14,sci .i64 1),(15,sci .i64 w)], [],5003,(5002, .arr 5 0 [[sci .i64 h.node,sci .i64 p.1,sci .i64 (h.steps+1), .ref 100 h.inn.length 0 h.inn.length, .ref 101 h.out.length 0 h.out.length], [sci .i64 0,sci .i64 0,sci .i64 0,lMs [],lLs []]])::(100, .arr 1 h.inn.length (refsR 1000 xp))::(101, .arr 1 h.out.length (refsR 3000 cp))::(3, .arr 5 0 [[sci .i64 h.node,sci .i64 h.state,sci .i64 h.steps,lMs h.inn,lLs h.out]])::(1, .arr 5 0 [[sci .i64 h.node,sci .i64 h.state,sci .i64 h.steps,lMs h.inn,lLs h.out]])::kFam xp cp [] []⟩) (fun _=>0) 0 [] ?_ ?_ ?_
      ·rfl
      ·constructor
       case blks=>
        ((try refine zW ?_);(try with_reducible exact True.intro))
        refine fblks_mem fun q hq=>?_
        have hd:=kF_dom (by rw [Lxp];omega) (by rw [Lcp];omega) (by decide) (by decide) hq
        simp only [List.append_nil,look_skip,dks,hd]
        exact kF_self (by rw [Lxp];omega)  (by rw [Lcp];omega)  (by decide) hq
       all_goals(try simp (maxSteps:=2000000) (disch:=omega) only [go_sem,simprocAttr,zD,zE,Int.natCast_zero])
      ·rintro w rfl
       (try simp (maxSteps:=2000000) (disch:=omega) only [go_sem,simprocAttr,zD,zE,Int.natCast_zero])
       refine walk_floop 200 200 (fun w:Nat=>w=0)
        (fun w=>⟨169, [(4, .ptr 1 0 0 0),(7, .ptr 3 0 0 0),(13, .ref 5002 0 0 2),(14,sci .i64 1),(17,sci .i64 w)], [],5003,(5002, .arr 5 0 [[sci .i64 h.node,sci .i64 p.1,sci .i64 (h.steps+1), .ref 100 h.inn.length 0 h.inn.length, .ref 101 h.out.length 0 h.out.length], [sci .i64 0,sci .i64 0,sci .i64 0,lMs [],lLs []]])::(100, .arr 1 h.inn.length (refsR 1000 xp))::(101, .arr 1 h.out.length (refsR 3000 cp))::(3, .arr 5 0 [[sci .i64 h.node,sci .i64 h.state,sci .i64 h.steps,lMs h.inn,lLs h.out]])::(1, .arr 5 0 [[sci .i64 h.node,sci .i64 h.state,sci .i64 h.steps,lMs h.inn,lLs h.out]])::kFam xp cp [] []⟩) (fun _=>0) 0 [] ?_ ?_ ?_
       ·rfl
       ·constructor
        case blks=>
         ((try refine zW ?_);(try with_reducible exact True.intro))
         refine fblks_mem fun q hq=>?_
         have hd:=kF_dom (by rw [Lxp];omega) (by rw [Lcp];omega) (by decide) (by decide) hq
         simp only [List.append_nil,look_skip,dks,hd]
         exact kF_self (by rw [Lxp];omega)  (by rw [Lcp];omega)  (by decide) hq
        all_goals(try simp (maxSteps:=2000000) (disch:=omega) only [go_sem,simprocAttr,zD,zE,Int.natCast_zero])
       ·rintro w rfl
        (try simp (maxSteps:=2000000) (disch:=omega) only [go_sem,simprocAttr,zD,zE,Int.natCast_zero])
        refine⟨(2,xp,cp), [],⟨by first | decide | (simp only;omega),Gxp,Gcp⟩,by first | decide | (simp only;omega),?_⟩
        constructor
        case blks=>
         ((try refine zW ?_);(try with_reducible exact True.intro))
         refine fblks_mem fun q hq=>?_
         have hd:=kF_dom (by rw [Lxp];omega) (by rw [Lcp];omega) (by decide) (by decide) hq
         simp only [List.append_nil,look_skip,dks,hd]
         exact kF_self (by rw [Lxp];omega)  (by rw [Lcp];omega)  (by decide) hq
        all_goals((try refine zO ?_);(try with_reducible exact True.intro))
     ·(try simp (maxSteps:=2000000) only [go_sem,simprocAttr,Int.natCast_zero])
      ((try refine zO ?_);(try with_reducible exact True.intro))
      refine walk_fcut 200 [] ⟨169, [(135,lHs h),(4, .ptr 1 0 0 0),(7, .ptr 3 0 0 0)], [],4, [(3, .arr 5 0 [[sci .i64 h.node,sci .i64 h.state,sci .i64 h.steps,lMs h.inn,lLs h.out]]),(1, .arr 5 0 [[sci .i64 h.node,sci .i64 h.state,sci .i64 h.steps,lMs h.inn,lLs h.out]])]⟩ trivial ?_ ?_
      ·constructor<;>((try refine zO ?_);(try with_reducible exact True.intro))
      obtain⟨X,hX⟩: ∃X:List Int,X=h.out.map fun l=>(l.length:Int):=⟨_,rfl⟩
      have hSF:=PieceFF_blk h f.gHs hX rfl
      rw [ffW_gfW] at hSF
      have hfi:=freshF_len h.inn
      have hfo:=freshF_len h.out
      have Si: ∀t u,t < 2+h.inn.length+h.out.length→u < 2+h.inn.length+h.out.length→νG 100 1000 101 3000 h.inn.length t=νG 100 1000 101 3000 h.inn.length u→t=u:=fun t u ht hu e=>νG_inj (by decide) (by decide) (by omega) ht hu e
      have Sb: ∀t,t < 2+h.inn.length+h.out.length→4≤νG 100 1000 101 3000 h.inn.length t∧νG 100 1000 101 3000 h.inn.length t < 5000:=fun t ht=>by have:=νG_bd (o1:=100) (k1:=1000) (o2:=101) (k2:=3000) (n:=5000) (by decide) (by decide) (by omega) (by omega) ht;omega
      have S0:νG 100 1000 101 3000 h.inn.length 0=100:=rfl
      have S1:νG 100 1000 101 3000 h.inn.length (1+h.inn.length)=101:=by unfold νG;rw [if_neg (by omega),if_neg (by omega),if_pos rfl]
      have SW:=νG_gfW (o1:=100) (k1:=1000) (o2:=101) (k2:=3000) (xs:=freshF h.inn) (cur:=freshF h.out)
      rw [hfi,hfo] at SW
      have Gxp:=good_fresh f.gHs.inns
      have Gcp:=good_fresh f.gHs.outs
      generalize gfW (freshF h.inn) (freshF h.out)=WS at hSF SW
      generalize νG 100 1000 101 3000 h.inn.length=νS at *
      refine at_gN 200 νS 5000 hSF Si Sb (by omega) ?_
      rw [SW]
      generalize freshF h.inn=xp at *
      generalize freshF h.out=cp at *
      have Lxp:=Gxp.1
      have Lcp:=Gcp.1
      (try simp (maxSteps:=2000000) (disch:=omega) only [go_sem,simprocAttr,zD,zE,S0,S1,look_famo,hfi,hfo])
      clear hSF Si Sb S0 S1 SW hfi hfo
      refine walk_floop 200 200 (fun w:Nat × List (Nat × List (Int × Int))=>w.1≤h.inn.length∧good h.inn.length w.2)
       (fun w=>⟨169, [(4, .ptr 1 0 0 0),(7, .ptr 3 0 0 0),(19, .ptr 5000 0 0 0),(20,sci .i64 w.1)], [],5001,(5000, .arr 6 0 [[sci .i64 h.node,sci .i64 h.state,sci .i64 h.steps,lI X, .ref 100 h.inn.length 0 h.inn.length, .ref 101 h.out.length 0 h.out.length]])::(100, .arr 1 h.inn.length (refsR 1000 w.2))::(101, .arr 1 h.out.length (refsR 3000 cp))::(3, .arr 5 0 [[sci .i64 h.node,sci .i64 h.state,sci .i64 h.steps,lMs h.inn,lLs h.out]])::(1, .arr 5 0 [[sci .i64 h.node,sci .i64 h.state,sci .i64 h.steps,lMs h.inn,lLs h.out]])::kFam w.2 cp [] []⟩) (fun w=>h.inn.length - w.1) (0,xp) [] ?_ ?_ ?_
      ·exact⟨Nat.zero_le _,Gxp⟩
      ·constructor
       case blks=>
        (try simp (maxSteps:=2000000) (disch:=omega) only [go_sem,simprocAttr,zD,zE,look_famo,Lxp,Lcp])
        refine fblks_mem fun q hq=>?_
        rcases kF_cases hq with ⟨t,ht,rfl⟩ | ⟨t,ht,rfl⟩ | ⟨t,ht,rfl⟩ | ⟨t,ht,rfl⟩
        ·have ht2:=ht
         rw [Lxp] at ht2
         have e0:(5000=1000+t)=False:=eq_false (by omega)
         have e1:(100=1000+t)=False:=eq_false (by omega)
         have e2:(101=1000+t)=False:=eq_false (by omega)
         have e3:(3=1000+t)=False:=eq_false (by omega)
         have e4:(1=1000+t)=False:=eq_false (by omega)
         have hk:=look_fam (sz:=2) (e:=eII) (k:=1000) (r:= []) ht
         rw [List.append_nil] at hk
         (try simp (maxSteps:=2000000) (disch:=omega) only [go_sem,simprocAttr,zD,zE,e0,e1,e2,e3,e4,look_famo,Lxp,Lcp,look_fam ht,hk])
        ·have ht2:=ht
         rw [Lcp] at ht2
         have e0:(5000=3000+t)=False:=eq_false (by omega)
         have e1:(100=3000+t)=False:=eq_false (by omega)
         have e2:(101=3000+t)=False:=eq_false (by omega)
         have e3:(3=3000+t)=False:=eq_false (by omega)
         have e4:(1=3000+t)=False:=eq_false (by omega)
         have hk:=look_fam (sz:=1) (e:=eI) (k:=3000) (r:= []) ht
         rw [List.append_nil] at hk
         (try simp (maxSteps:=2000000) (disch:=omega) only [go_sem,simprocAttr,zD,zE,e0,e1,e2,e3,e4,look_famo,Lxp,Lcp,look_fam ht,hk])
        ·simp at ht
        ·simp at ht
       all_goals(try simp (maxSteps:=2000000) (disch:=omega) only [go_sem,simprocAttr,zD,zE,Int.natCast_zero])
      ·clear Lxp Gxp xp
       rintro⟨k,xp⟩ ⟨k1,Gxp⟩
       simp only at k1 Gxp
       have Lxp:=Gxp.1
       by_cases lk:k < h.inn.length
       ·obtain⟨R,hR⟩: ∃R,((xp[k]?).map fun y=>y.2.length)=some R:=⟨_,by rw [List.getElem?_eq_getElem (by omega)];rfl⟩
        ((try refine zO ?_);(try with_reducible exact True.intro))
        refine walk_floop 200 200 (fun w:Nat × List (Nat × List (Int × Int))=>w.1≤R∧good h.inn.length w.2∧((w.2[k]?).map fun y=>y.2.length)=some R)
         (fun w=>⟨169, [(4, .ptr 1 0 0 0),(7, .ptr 3 0 0 0),(19, .ptr 5000 0 0 0),(20,sci .i64 k),(21,sci .i64 w.1)], [],5001,(5000, .arr 6 0 [[sci .i64 h.node,sci .i64 h.state,sci .i64 h.steps,lI X, .ref 100 h.inn.length 0 h.inn.length, .ref 101 h.out.length 0 h.out.length]])::(100, .arr 1 h.inn.length (refsR 1000 w.2))::(101, .arr 1 h.out.length (refsR 3000 cp))::(3, .arr 5 0 [[sci .i64 h.node,sci .i64 h.state,sci .i64 h.steps,lMs h.inn,lLs h.out]])::(1, .arr 5 0 [[sci .i64 h.node,sci .i64 h.state,sci .i64 h.steps,lMs h.inn,lLs h.out]])::kFam w.2 cp [] []⟩) (fun w=>R - w.1) (0,xp) [] ?_ ?_ ?_
        ·exact⟨Nat.zero_le _,Gxp,hR⟩
        ·constructor
         case blks=>
          ((try refine zW ?_);(try with_reducible exact True.intro))
          refine fblks_mem fun q hq=>?_
          have hd:=kF_dom (by rw [Lxp];omega) (by rw [Lcp];omega) (by decide) (by decide) hq
          simp only [List.append_nil,look_skip,dks,hd]
          exact kF_self (by rw [Lxp];omega)  (by rw [Lcp];omega)  (by decide) hq
         all_goals(try simp (maxSteps:=2000000) (disch:=omega) only [go_sem,simprocAttr,zD,zE,Int.natCast_zero])
        ·clear hR Lxp Gxp xp
         rintro⟨j,v⟩ ⟨j1,Gv,hR⟩
         simp only at j1 Gv hR
         have Lv:=Gv.1
         have lkv:k < v.length:=by omega
         have hkb:=Gv.2 _ (List.getElem_mem lkv)
         rw [List.getElem?_eq_getElem lkv,Option.map_some] at hR
         have hrg:(refsR 1000 v)[k]? =some [.ref (1000+k) v[k].1 0 v[k].2.length]:=refsR_get lkv
         have hlk:Idl.look (kFam v cp [] []) (1000+k)=some (.arr 2 v[k].1 (ir eII v[k].2)):=kF_xp (by rw [Lv];omega) lkv
         have hsh:=sh_set (xs:=v) (k:=k) (j:=j) (v:=((98,0):Int × Int)) lkv
         have hdr: ∀t:Int × Int,List.drop 2 (List.map IV.p (eII t))= []:=fun _=>rfl
         generalize hvk:v[k]=o at *
         obtain⟨go,ro⟩:=o
         simp only [Option.some.injEq] at hkb hR hrg hlk hsh
         have e0:(5000=1000+k)=False:=eq_false (by omega)
         have e1:(100=1000+k)=False:=eq_false (by omega)
         have e2:(101=1000+k)=False:=eq_false (by omega)
         have e3:(3=1000+k)=False:=eq_false (by omega)
         have e4:(1=1000+k)=False:=eq_false (by omega)
         have hw:IntKind.i64.wrap ((j:Int)+1)=(j:Int)+1:=w64 (by omega)
         (try simp (maxSteps:=2000000) only [go_sem,simprocAttr,e0,e1,e2,e3,e4,hrg,hlk,hR,lk])
         by_cases lj:j < R
         ·have hir:(ir eII ro).set j [IV.p (.sc (.int .i64 98)),IV.p (.sc (.int .i64 0))]=ir eII (ro.set j (98,0)):=by rw [ir,ir,List.map_set];rfl
          (try simp (maxSteps:=2000000) only [go_sem,simprocAttr,if_pos lj,e0,e1,e2,e3,e4,hrg,hlk,hR,hir,hdr,lj,lk,hw])
          (try simp (maxSteps:=2000000) (disch:=omega) only [go_sem,simprocAttr,zD,zE,e0,e1,e2,e3,e4,hrg,hlk,hR,hir,hdr,lj])
          have hrf:refsR 1000 (v.set k (go,ro.set j (98,0)))=refsR 1000 v:=refsR_sh hsh
          refine⟨(j+1,(v.set k (go,ro.set j (98,0)))), [],⟨lj,⟨by rw [List.length_set];exact Gv.1,fun y hy=>?_⟩,?_⟩,by simp only;omega,?_⟩
          ·rcases List.mem_or_eq_of_mem_set hy with hy | rfl
           ·exact Gv.2 y hy
           ·simp only [List.length_set];omega
          ·simp only [List.getElem?_set_self lkv,Option.map_some,List.length_set,hR]
          ·constructor
           case blks=>
            (try simp (maxSteps:=2000000) (disch:=omega) only [go_sem,simprocAttr,zD,zE,hrf])
            refine fblks_mem fun q hq=>?_
            rcases kF_setxp (by rw [Lv];omega) (by rw [Lcp];omega) (by decide) (by decide) lkv hq with rfl | ⟨hq2,hne⟩
            ·rw [List.append_nil]
             exact look_cons.trans (if_pos rfl)
            ·have hd:=kF_dom (by rw [Lv];omega) (by rw [Lcp];omega) (by decide) (by decide) hq2
             rw [List.append_nil,look_cons,if_neg (fun c=>hne c.symm)]
             simp only [look_skip,dks,hd]
             exact kF_self (by rw [Lv];omega)  (by rw [Lcp];omega)  (by decide) hq2
           all_goals((try refine zO ?_);(try with_reducible exact True.intro))
         ·obtain rfl:j=R:=by omega
          (try simp (maxSteps:=2000000) (disch:=omega) only [go_sem,simprocAttr,zD,zE,e0,e1,e2,e3,e4,hrg,hlk,hR])
          refine⟨(k+1,v), [],⟨lk,Gv⟩,by simp only;omega,?_⟩
          constructor
          case blks=>
           ((try refine zW ?_);(try with_reducible exact True.intro))
           refine fblks_mem fun q hq=>?_
           have hd:=kF_dom (by rw [Lv];omega) (by rw [Lcp];omega) (by decide) (by decide) hq
           simp only [List.append_nil,look_skip,dks,hd]
           exact kF_self (by rw [Lv];omega)  (by rw [Lcp];omega)  (by decide) hq
          all_goals((try refine zO ?_);(try with_reducible exact True.intro))
       ·obtain rfl:k=h.inn.length:=by omega
        ((try refine zO ?_);(try with_reducible exact True.intro))
        (refine walk_trim [4,7] trivial zL ?_;(refine zW ?_;try with_reducible exact True.intro);refine irun_walk (id:=34) (n:=200) [none,some [2],none,some [],none,some [],none,none] mixed (by kernel_rfl) ?_)
        ((try refine zW ?_);(try with_reducible exact True.intro))
        (refine at_dcall ?_;(refine zW ?_;try with_reducible exact True.intro);refine callA_of (L9Ref_spec h) zB ?_;((try refine zW ?_);(try with_reducible exact True.intro)))
        ((try refine zW ?_);(try with_reducible exact True.intro))
        (refine at_dcall ?_;(refine zW ?_;try with_reducible exact True.intro);refine callA_of (R9SameR_spec h f.gHs) zB ?_;((try refine zW ?_);(try with_reducible exact True.intro)))
        ((try refine zW ?_);(try with_reducible exact True.intro))
        (refine at_dcall ?_;(refine zW ?_;try with_reducible exact True.intro);refine callA_of (fixed_spec) zB ?_;((try refine zW ?_);(try with_reducible exact True.intro)))
        ((try refine zW ?_);(try with_reducible exact True.intro))
   ·obtain⟨kx,i,FA,FB,row,lk,hxk,he,hAB,hA,hlk,hm1,hm2,hf⟩:=hT2
    subst hxk
    have hTF:=TakeFF_blk ⟨N,ls,T,ff,room,acts⟩ h (m1,m2) n j nd st f.hn f.hj f.hx f.hq hg kl hkt f.inl f.rows f.st0 he hAB hA hlk hm1 hm2 hf rfl
    simp only at hTF
    generalize hxq:freshF FA++(1,row.take (posL m1 row)++(m1,m2)::row.drop (posL m1 row))::freshF FB=xq at hTF
    have hxl:xq.length=h.inn.length:=by rw [←hxq,hAB];simp [freshF_len]
    have Qi: ∀t u,t < 2+h.inn.length+h.out.length→u < 2+h.inn.length+h.out.length→νG 5010 6000 5011 8000 h.inn.length t=νG 5010 6000 5011 8000 h.inn.length u→t=u:=fun t u ht hu e=>νG_inj (by decide) (by decide) (by omega) ht hu e
    have Qb: ∀t,t < 2+h.inn.length+h.out.length→5001≤νG 5010 6000 5011 8000 h.inn.length t∧νG 5010 6000 5011 8000 h.inn.length t < 9000:=fun t ht=>by have:=νG_bd (o1:=5010) (k1:=6000) (o2:=5011) (k2:=8000) (n:=9000) (by decide) (by decide) (by omega) (by omega) ht;omega
    have Q0:νG 5010 6000 5011 8000 h.inn.length 0=5010:=rfl
    have Q1:νG 5010 6000 5011 8000 h.inn.length (1+h.inn.length)=5011:=by unfold νG;rw [if_neg (by omega),if_neg (by omega),if_pos rfl]
    have QW:=νG_gfW (o1:=5010) (k1:=6000) (o2:=5011) (k2:=8000) (xs:=xq) (cur:=freshF h.out)
    rw [hxl,hfo] at QW
    generalize gfW xq (freshF h.out)=WQ at hTF QW
    generalize νG 5010 6000 5011 8000 h.inn.length=νQ at *
    refine at_gN 200 νQ 9000 hTF Qi Qb (by omega) ?_
    rw [QW]
    (try simp (maxSteps:=2000000) (disch:=omega) only [go_sem,simprocAttr,zD,zE,Q0,Q1,look_famo,hfi,hfo,hxl])
    have Gxq:good h.inn.length xq:=⟨hxl,fun y hy=>by
     rw [←hxq] at hy
     have hrr:row.length≤1000:=(f.rows row (by rw [hAB];simp)).2
     simp only [List.mem_append,List.mem_cons] at hy
     rcases hy with hy | rfl | hy
     ·obtain⟨z,hz,rfl⟩:=List.mem_map.1 hy
      exact f.gHs.inns z (by rw [hAB];simp [hz])
     ·simp only;rw [sIns_eq (m1,m2) row,sIns_len];omega
     ·obtain⟨z,hz,rfl⟩:=List.mem_map.1 hy
      exact f.gHs.inns z (by rw [hAB];simp [hz])⟩
    have Gcq:=good_fresh f.gHs.outs
    generalize freshF h.out=cq at *
    generalize takenL lk.1 m2 h.state st.takes=stq at *
    have Lxq:=Gxq.1
    have Lcq:=Gcq.1
    refine walk_floop 200 200 (fun i:Nat × List (Nat × List (Int × Int)) × List (Nat × List (Int)) × List (Nat × List (Int × Int)) × List (Nat × List (Int))=>i.1≤2∧good h.inn.length i.2.1∧good h.out.length i.2.2.1∧good h.inn.length i.2.2.2.1∧good h.out.length i.2.2.2.2)
     (fun i=>⟨169, [(4, .ptr 1 0 0 0),(7, .ptr 3 0 0 0),(13, .ref 9001 0 0 2),(14,sci .i64 i.1)], [],9002,(9001, .arr 5 0 [[sci .i64 h.node,sci .i64 p.1,sci .i64 (h.steps+1), .ref 100 h.inn.length 0 h.inn.length, .ref 101 h.out.length 0 h.out.length], [sci .i64 h.node,sci .i64 stq,sci .i64 (h.steps+1), .ref 5010 h.inn.length 0 h.inn.length, .ref 5011 h.out.length 0 h.out.length]])::(100, .arr 1 h.inn.length (refsR 1000 i.2.1))::(101, .arr 1 h.out.length (refsR 3000 i.2.2.1))::(5010, .arr 1 h.inn.length (refsR 6000 i.2.2.2.1))::(5011, .arr 1 h.out.length (refsR 8000 i.2.2.2.2))::(3, .arr 5 0 [[sci .i64 h.node,sci .i64 h.state,sci .i64 h.steps,lMs h.inn,lLs h.out]])::(1, .arr 5 0 [[sci .i64 h.node,sci .i64 h.state,sci .i64 h.steps,lMs h.inn,lLs h.out]])::kFam i.2.1 i.2.2.1 i.2.2.2.1 i.2.2.2.2⟩) (fun i=>2 - i.1) (0,xp,cp,xq,cq) [] ?_ ?_ ?_
    ·exact⟨Nat.zero_le _,Gxp,Gcp,Gxq,Gcq⟩
    ·constructor
     case blks=>
      (try simp (maxSteps:=2000000) (disch:=omega) only [go_sem,simprocAttr,zD,zE,look_famo,Lxp,Lcp,Lxq,Lcq,hfi,hfo])
      refine fblks_mem fun q hq=>?_
      rcases kF_cases hq with ⟨t,ht,rfl⟩ | ⟨t,ht,rfl⟩ | ⟨t,ht,rfl⟩ | ⟨t,ht,rfl⟩
      ·have ht2:=ht
       rw [Lxp] at ht2
       have e0:(9001=1000+t)=False:=eq_false (by omega)
       have e1:(9000=1000+t)=False:=eq_false (by omega)
       have e2:(5010=1000+t)=False:=eq_false (by omega)
       have e3:(5011=1000+t)=False:=eq_false (by omega)
       have e4:(5000=1000+t)=False:=eq_false (by omega)
       have e5:(100=1000+t)=False:=eq_false (by omega)
       have e6:(101=1000+t)=False:=eq_false (by omega)
       have e7:(3=1000+t)=False:=eq_false (by omega)
       have e8:(1=1000+t)=False:=eq_false (by omega)
       have e9:(0=1000+t)=False:=eq_false (by omega)
       have e10:(2=1000+t)=False:=eq_false (by omega)
       have hk:=look_fam (sz:=2) (e:=eII) (k:=1000) (r:= []) ht
       rw [List.append_nil] at hk
       (try simp (maxSteps:=2000000) (disch:=omega) only [go_sem,simprocAttr,zD,zE,e0,e1,e2,e3,e4,e5,e6,e7,e8,e9,e10,look_famo,Lxp,Lcp,Lxq,Lcq,look_fam ht,hk])
      ·have ht2:=ht
       rw [Lcp] at ht2
       have e0:(9001=3000+t)=False:=eq_false (by omega)
       have e1:(9000=3000+t)=False:=eq_false (by omega)
       have e2:(5010=3000+t)=False:=eq_false (by omega)
       have e3:(5011=3000+t)=False:=eq_false (by omega)
       have e4:(5000=3000+t)=False:=eq_false (by omega)
       have e5:(100=3000+t)=False:=eq_false (by omega)
       have e6:(101=3000+t)=False:=eq_false (by omega)
       have e7:(3=3000+t)=False:=eq_false (by omega)
       have e8:(1=3000+t)=False:=eq_false (by omega)
       have e9:(0=3000+t)=False:=eq_false (by omega)
       have e10:(2=3000+t)=False:=eq_false (by omega)
       have hk:=look_fam (sz:=1) (e:=eI) (k:=3000) (r:= []) ht
       rw [List.append_nil] at hk
       (try simp (maxSteps:=2000000) (disch:=omega) only [go_sem,simprocAttr,zD,zE,e0,e1,e2,e3,e4,e5,e6,e7,e8,e9,e10,look_famo,Lxp,Lcp,Lxq,Lcq,look_fam ht,hk])
      ·have ht2:=ht
       rw [Lxq] at ht2
       have e0:(9001=6000+t)=False:=eq_false (by omega)
       have e1:(9000=6000+t)=False:=eq_false (by omega)
       have e2:(5010=6000+t)=False:=eq_false (by omega)
       have e3:(5011=6000+t)=False:=eq_false (by omega)
       have e4:(5000=6000+t)=False:=eq_false (by omega)
       have e5:(100=6000+t)=False:=eq_false (by omega)
       have e6:(101=6000+t)=False:=eq_false (by omega)
       have e7:(3=6000+t)=False:=eq_false (by omega)
       have e8:(1=6000+t)=False:=eq_false (by omega)
       have e9:(0=6000+t)=False:=eq_false (by omega)
       have e10:(2=6000+t)=False:=eq_false (by omega)
       have hk:=look_fam (sz:=2) (e:=eII) (k:=6000) (r:= []) ht
       rw [List.append_nil] at hk
       (try simp (maxSteps:=2000000) (disch:=omega) only [go_sem,simprocAttr,zD,zE,e0,e1,e2,e3,e4,e5,e6,e7,e8,e9,e10,look_famo,Lxp,Lcp,Lxq,Lcq,look_fam ht,hk])
      ·have ht2:=ht
       rw [Lcq] at ht2
       have e0:(9001=8000+t)=False:=eq_false (by omega)
       have e1:(9000=8000+t)=False:=eq_false (by omega)
       have e2:(5010=8000+t)=False:=eq_false (by omega)
       have e3:(5011=8000+t)=False:=eq_false (by omega)
       have e4:(5000=8000+t)=False:=eq_false (by omega)
       have e5:(100=8000+t)=False:=eq_false (by omega)
       have e6:(101=8000+t)=False:=eq_false (by omega)
       have e7:(3=8000+t)=False:=eq_false (by omega)
       have e8:(1=8000+t)=False:=eq_false (by omega)
       have e9:(0=8000+t)=False:=eq_false (by omega)
       have e10:(2=8000+t)=False:=eq_false (by omega)
       have hk:=look_fam (sz:=1) (e:=eI) (k:=8000) (r:= []) ht
       rw [List.append_nil] at hk
       (try simp (maxSteps:=2000000) (disch:=omega) only [go_sem,simprocAttr,zD,zE,e0,e1,e2,e3,e4,e5,e6,e7,e8,e9,e10,look_famo,Lxp,Lcp,Lxq,Lcq,look_fam ht,hk])
     all_goals(try simp (maxSteps:=2000000) (disch:=omega) only [go_sem,simprocAttr,zD,zE,Int.natCast_zero])
    ·clear hPe hKe k8 kl ko hkt hn' hj' hfi hfo hm hk0 hpk hgo hgoF hcp hPF Pi Pb P0 P1 PW he hlk hm1 hm2 hf hTF Qi Qb Q0 Q1 QW
     rintro⟨i,xp,cp,xq,cq⟩ ⟨i1,Gxp,Gcp,Gxq,Gcq⟩
     simp only at i1 Gxp Gcp Gxq Gcq
     have Lxp:=Gxp.1
     have Lcp:=Gcp.1
     have Lxq:=Gxq.1
     have Lcq:=Gcq.1
     rcases (show i=0∨i=1∨i=2 by omega) with rfl | rfl | rfl
     ·(try simp (maxSteps:=2000000) only [go_sem,simprocAttr,Int.natCast_zero])
      ((try refine zO ?_);(try with_reducible exact True.intro))
      refine walk_floop 200 200 (fun w:Nat × List (Nat × List (Int × Int))=>w.1≤h.inn.length∧good h.inn.length w.2)
       (fun w=>⟨169, [(4, .ptr 1 0 0 0),(7, .ptr 3 0 0 0),(13, .ref 9001 0 0 2),(14,sci .i64 0),(15,sci .i64 w.1)], [],9002,(9001, .arr 5 0 [[sci .i64 h.node,sci .i64 p.1,sci .i64 (h.steps+1), .ref 100 h.inn.length 0 h.inn.length, .ref 101 h.out.length 0 h.out.length], [sci .i64 h.node,sci .i64 stq,sci .i64 (h.steps+1), .ref 5010 h.inn.length 0 h.inn.length, .ref 5011 h.out.length 0 h.out.length]])::(100, .arr 1 h.inn.length (refsR 1000 w.2))::(101, .arr 1 h.out.length (refsR 3000 cp))::(5010, .arr 1 h.inn.length (refsR 6000 xq))::(5011, .arr 1 h.out.length (refsR 8000 cq))::(3, .arr 5 0 [[sci .i64 h.node,sci .i64 h.state,sci .i64 h.steps,lMs h.inn,lLs h.out]])::(1, .arr 5 0 [[sci .i64 h.node,sci .i64 h.state,sci .i64 h.steps,lMs h.inn,lLs h.out]])::kFam w.2 cp xq cq⟩) (fun w=>h.inn.length - w.1) (0,xp) [] ?_ ?_ ?_
      ·exact⟨Nat.zero_le _,Gxp⟩
      ·constructor
       case blks=>
        ((try refine zW ?_);(try with_reducible exact True.intro))
        refine fblks_mem fun q hq=>?_
        have hd:=kF_dom (by rw [Lxp];omega) (by rw [Lcp];omega) (by rw [Lxq];omega) (by rw [Lcq];omega) hq
        simp only [List.append_nil,look_skip,dks,hd]
        exact kF_self (by rw [Lxp];omega)  (by rw [Lcp];omega)  (by rw [Lxq];omega) hq
       all_goals(try simp (maxSteps:=2000000) (disch:=omega) only [go_sem,simprocAttr,zD,zE,Int.natCast_zero])
      ·clear Lxp Gxp xp
       rintro⟨k,xp⟩ ⟨k1,Gxp⟩
       simp only at k1 Gxp
       have Lxp:=Gxp.1
       by_cases lk:k < h.inn.length
       ·obtain⟨R,hR⟩: ∃R,((xp[k]?).map fun y=>y.2.length)=some R:=⟨_,by rw [List.getElem?_eq_getElem (by omega)];rfl⟩
        ((try refine zO ?_);(try with_reducible exact True.intro))
        refine walk_floop 200 200 (fun w:Nat × List (Nat × List (Int × Int))=>w.1≤R∧good h.inn.length w.2∧((w.2[k]?).map fun y=>y.2.length)=some R)
         (fun w=>⟨169, [(4, .ptr 1 0 0 0),(7, .ptr 3 0 0 0),(13, .ref 9001 0 0 2),(14,sci .i64 0),(15,sci .i64 k),(16,sci .i64 w.1)], [],9002,(9001, .arr 5 0 [[sci .i64 h.node,sci .i64 p.1,sci .i64 (h.steps+1), .ref 100 h.inn.length 0 h.inn.length, .ref 101 h.out.length 0 h.out.length], [sci .i64 h.node,sci .i64 stq,sci .i64 (h.steps+1), .ref 5010 h.inn.length 0 h.inn.length, .ref 5011 h.out.length 0 h.out.length]])::(100, .arr 1 h.inn.length (refsR 1000 w.2))::(101, .arr 1 h.out.length (refsR 3000 cp))::(5010, .arr 1 h.inn.length (refsR 6000 xq))::(5011, .arr 1 h.out.length (refsR 8000 cq))::(3, .arr 5 0 [[sci .i64 h.node,sci .i64 h.state,sci .i64 h.steps,lMs h.inn,lLs h.out]])::(1, .arr 5 0 [[sci .i64 h.node,sci .i64 h.state,sci .i64 h.steps,lMs h.inn,lLs h.out]])::kFam w.2 cp xq cq⟩) (fun w=>R - w.1) (0,xp) [] ?_ ?_ ?_
        ·exact⟨Nat.zero_le _,Gxp,hR⟩
        ·constructor
         case blks=>
          ((try refine zW ?_);(try with_reducible exact True.intro))
          refine fblks_mem fun q hq=>?_
          have hd:=kF_dom (by rw [Lxp];omega) (by rw [Lcp];omega) (by rw [Lxq];omega) (by rw [Lcq];omega) hq
          simp only [List.append_nil,look_skip,dks,hd]
          exact kF_self (by rw [Lxp];omega)  (by rw [Lcp];omega)  (by rw [Lxq];omega) hq
         all_goals(try simp (maxSteps:=2000000) (disch:=omega) only [go_sem,simprocAttr,zD,zE,Int.natCast_zero])
        ·clear hR Lxp Gxp xp
         rintro⟨j,v⟩ ⟨j1,Gv,hR⟩
         simp only at j1 Gv hR
         have Lv:=Gv.1
         have lkv:k < v.length:=by omega
         have hkb:=Gv.2 _ (List.getElem_mem lkv)
         rw [List.getElem?_eq_getElem lkv,Option.map_some] at hR
         have hrg:(refsR 1000 v)[k]? =some [.ref (1000+k) v[k].1 0 v[k].2.length]:=refsR_get lkv
         have hlk:Idl.look (kFam v cp xq cq) (1000+k)=some (.arr 2 v[k].1 (ir eII v[k].2)):=kF_xp (by rw [Lv];omega) lkv
         have hsh:=sh_set (xs:=v) (k:=k) (j:=j) (v:=((99,0):Int × Int)) lkv
         have hdr: ∀t:Int × Int,List.drop 2 (List.map IV.p (eII t))= []:=fun _=>rfl
         generalize hvk:v[k]=o at *
         obtain⟨go,ro⟩:=o
         simp only [Option.some.injEq] at hkb hR hrg hlk hsh
         have e0:(9001=1000+k)=False:=eq_false (by omega)
         have e1:(9000=1000+k)=False:=eq_false (by omega)
         have e2:(5010=1000+k)=False:=eq_false (by omega)
         have e3:(5011=1000+k)=False:=eq_false (by omega)
         have e4:(5000=1000+k)=False:=eq_false (by omega)
         have e5:(100=1000+k)=False:=eq_false (by omega)
         have e6:(101=1000+k)=False:=eq_false (by omega)
         have e7:(3=1000+k)=False:=eq_false (by omega)
         have e8:(1=1000+k)=False:=eq_false (by omega)
         have e9:(0=1000+k)=False:=eq_false (by omega)
         have e10:(2=1000+k)=False:=eq_false (by omega)
         have hw:IntKind.i64.wrap ((j:Int)+1)=(j:Int)+1:=w64 (by omega)
         (try simp (maxSteps:=2000000) only [go_sem,simprocAttr,e0,e1,e2,e3,e4,e5,e6,e7,e8,e9,e10,hrg,hlk,hR,lk])
         by_cases lj:j < R
         ·have hir:(ir eII ro).set j [IV.p (.sc (.int .i64 99)),IV.p (.sc (.int .i64 0))]=ir eII (ro.set j (99,0)):=by rw [ir,ir,List.map_set];rfl
          (try simp (maxSteps:=2000000) only [go_sem,simprocAttr,if_pos lj,e0,e1,e2,e3,e4,e5,e6,e7,e8,e9,e10,hrg,hlk,hR,hir,hdr,lj,lk,hw])
          (try simp (maxSteps:=2000000) (disch:=omega) only [go_sem,simprocAttr,zD,zE,e0,e1,e2,e3,e4,e5,e6,e7,e8,e9,e10,hrg,hlk,hR,hir,hdr,lj])
          have hrf:refsR 1000 (v.set k (go,ro.set j (99,0)))=refsR 1000 v:=refsR_sh hsh
          refine⟨(j+1,(v.set k (go,ro.set j (99,0)))), [],⟨lj,⟨by rw [List.length_set];exact Gv.1,fun y hy=>?_⟩,?_⟩,by simp only;omega,?_⟩
          ·rcases List.mem_or_eq_of_mem_set hy with hy | rfl
           ·exact Gv.2 y hy
           ·simp only [List.length_set];omega
          ·simp only [List.getElem?_set_self lkv,Option.map_some,List.length_set,hR]
          ·constructor
           case blks=>
            (try simp (maxSteps:=2000000) (disch:=omega) only [go_sem,simprocAttr,zD,zE,hrf])
            refine fblks_mem fun q hq=>?_
            rcases kF_setxp (by rw [Lv];omega) (by rw [Lcp];omega) (by rw [Lxq];omega) (by rw [Lcq];omega) lkv hq with rfl | ⟨hq2,hne⟩
            ·rw [List.append_nil]
             exact look_cons.trans (if_pos rfl)
            ·have hd:=kF_dom (by rw [Lv];omega) (by rw [Lcp];omega) (by rw [Lxq];omega) (by rw [Lcq];omega) hq2
             rw [List.append_nil,look_cons,if_neg (fun c=>hne c.symm)]
             simp only [look_skip,dks,hd]
             exact kF_self (by rw [Lv];omega)  (by rw [Lcp];omega)  (by rw [Lxq];omega) hq2
           all_goals((try refine zO ?_);(try with_reducible exact True.intro))
         ·obtain rfl:j=R:=by omega
          (try simp (maxSteps:=2000000) (disch:=omega) only [go_sem,simprocAttr,zD,zE,e0,e1,e2,e3,e4,e5,e6,e7,e8,e9,e10,hrg,hlk,hR])
          refine⟨(k+1,v), [],⟨lk,Gv⟩,by simp only;omega,?_⟩
          constructor
          case blks=>
           ((try refine zW ?_);(try with_reducible exact True.intro))
           refine fblks_mem fun q hq=>?_
           have hd:=kF_dom (by rw [Lv];omega) (by rw [Lcp];omega) (by rw [Lxq];omega) (by rw [Lcq];omega) hq
           simp only [List.append_nil,look_skip,dks,hd]
           exact kF_self (by rw [Lv];omega)  (by rw [Lcp];omega)  (by rw [Lxq];omega) hq
          all_goals((try refine zO ?_);(try with_reducible exact True.intro))
       ·obtain rfl:k=h.inn.length:=by omega
        ((try refine zO ?_);(try with_reducible exact True.intro))
        refine walk_floop 200 200 (fun w:Nat × List (Nat × List (Int))=>w.1≤h.out.length∧good h.out.length w.2)
         (fun w=>⟨169, [(4, .ptr 1 0 0 0),(7, .ptr 3 0 0 0),(13, .ref 9001 0 0 2),(14,sci .i64 0),(17,sci .i64 w.1)], [],9002,(9001, .arr 5 0 [[sci .i64 h.node,sci .i64 p.1,sci .i64 (h.steps+1), .ref 100 h.inn.length 0 h.inn.length, .ref 101 h.out.length 0 h.out.length], [sci .i64 h.node,sci .i64 stq,sci .i64 (h.steps+1), .ref 5010 h.inn.length 0 h.inn.length, .ref 5011 h.out.length 0 h.out.length]])::(100, .arr 1 h.inn.length (refsR 1000 xp))::(101, .arr 1 h.out.length (refsR 3000 w.2))::(5010, .arr 1 h.inn.length (refsR 6000 xq))::(5011, .arr 1 h.out.length (refsR 8000 cq))::(3, .arr 5 0 [[sci .i64 h.node,sci .i64 h.state,sci .i64 h.steps,lMs h.inn,lLs h.out]])::(1, .arr 5 0 [[sci .i64 h.node,sci .i64 h.state,sci .i64 h.steps,lMs h.inn,lLs h.out]])::kFam xp w.2 xq cq⟩) (fun w=>h.out.length - w.1) (0,cp) [] ?_ ?_ ?_
        ·exact⟨Nat.zero_le _,Gcp⟩
        ·constructor
         case blks=>
          ((try refine zW ?_);(try with_reducible exact True.intro))
          refine fblks_mem fun q hq=>?_
          have hd:=kF_dom (by rw [Lxp];omega) (by rw [Lcp];omega) (by rw [Lxq];omega) (by rw [Lcq];omega) hq
          simp only [List.append_nil,look_skip,dks,hd]
          exact kF_self (by rw [Lxp];omega)  (by rw [Lcp];omega)  (by rw [Lxq];omega) hq
         all_goals(try simp (maxSteps:=2000000) (disch:=omega) only [go_sem,simprocAttr,zD,zE,Int.natCast_zero])
        ·clear Lcp Gcp cp
         rintro⟨k,cp⟩ ⟨k1,Gcp⟩
         simp only at k1 Gcp
         have Lcp:=Gcp.1
         by_cases lk:k < h.out.length
         ·obtain⟨R,hR⟩: ∃R,((cp[k]?).map fun y=>y.2.length)=some R:=⟨_,by rw [List.getElem?_eq_getElem (by omega)];rfl⟩
          ((try refine zO ?_);(try with_reducible exact True.intro))
          refine walk_floop 200 200 (fun w:Nat × List (Nat × List (Int))=>w.1≤R∧good h.out.length w.2∧((w.2[k]?).map fun y=>y.2.length)=some R)
           (fun w=>⟨169, [(4, .ptr 1 0 0 0),(7, .ptr 3 0 0 0),(13, .ref 9001 0 0 2),(14,sci .i64 0),(17,sci .i64 k),(18,sci .i64 w.1)], [],9002,(9001, .arr 5 0 [[sci .i64 h.node,sci .i64 p.1,sci .i64 (h.steps+1), .ref 100 h.inn.length 0 h.inn.length, .ref 101 h.out.length 0 h.out.length], [sci .i64 h.node,sci .i64 stq,sci .i64 (h.steps+1), .ref 5010 h.inn.length 0 h.inn.length, .ref 5011 h.out.length 0 h.out.length]])::(100, .arr 1 h.inn.length (refsR 1000 xp))::(101, .arr 1 h.out.length (refsR 3000 w.2))::(5010, .arr 1 h.inn.length (refsR 6000 xq))::(5011, .arr 1 h.out.length (refsR 8000 cq))::(3, .arr 5 0 [[sci .i64 h.node,sci .i64 h.state,sci .i64 h.steps,lMs h.inn,lLs h.out]])::(1, .arr 5 0 [[sci .i64 h.node,sci .i64 h.state,sci .i64 h.steps,lMs h.inn,lLs h.out]])::kFam xp w.2 xq cq⟩) (fun w=>R - w.1) (0,cp) [] ?_ ?_ ?_
          ·exact⟨Nat.zero_le _,Gcp,hR⟩
          ·constructor
           case blks=>
            ((try refine zW ?_);(try with_reducible exact True.intro))
            refine fblks_mem fun q hq=>?_
            have hd:=kF_dom (by rw [Lxp];omega) (by rw [Lcp];omega) (by rw [Lxq];omega) (by rw [Lcq];omega) hq
            simp only [List.append_nil,look_skip,dks,hd]
            exact kF_self (by rw [Lxp];omega)  (by rw [Lcp];omega)  (by rw [Lxq];omega) hq
           all_goals(try simp (maxSteps:=2000000) (disch:=omega) only [go_sem,simprocAttr,zD,zE,Int.natCast_zero])
          ·clear hR Lcp Gcp cp
           rintro⟨j,v⟩ ⟨j1,Gv,hR⟩
           simp only at j1 Gv hR
           have Lv:=Gv.1
           have lkv:k < v.length:=by omega
           have hkb:=Gv.2 _ (List.getElem_mem lkv)
           rw [List.getElem?_eq_getElem lkv,Option.map_some] at hR
           have hrg:(refsR 3000 v)[k]? =some [.ref (3000+k) v[k].1 0 v[k].2.length]:=refsR_get lkv
           have hlk:Idl.look (kFam xp v xq cq) (3000+k)=some (.arr 1 v[k].1 (ir eI v[k].2)):=kF_cp (by rw [Lxp];omega)  (by rw [Lv];omega) lkv
           have hsh:=sh_set (xs:=v) (k:=k) (j:=j) (v:=(99:Int)) lkv
           have hdr: ∀t:Int,List.drop 1 (List.map IV.p (eI t))= []:=fun _=>rfl
           generalize hvk:v[k]=o at *
           obtain⟨go,ro⟩:=o
           simp only [Option.some.injEq] at hkb hR hrg hlk hsh
           have e0:(9001=3000+k)=False:=eq_false (by omega)
           have e1:(9000=3000+k)=False:=eq_false (by omega)
           have e2:(5010=3000+k)=False:=eq_false (by omega)
           have e3:(5011=3000+k)=False:=eq_false (by omega)
           have e4:(5000=3000+k)=False:=eq_false (by omega)
           have e5:(100=3000+k)=False:=eq_false (by omega)
           have e6:(101=3000+k)=False:=eq_false (by omega)
           have e7:(3=3000+k)=False:=eq_false (by omega)
           have e8:(1=3000+k)=False:=eq_false (by omega)
           have e9:(0=3000+k)=False:=eq_false (by omega)
           have e10:(2=3000+k)=False:=eq_false (by omega)
           have hw:IntKind.i64.wrap ((j:Int)+1)=(j:Int)+1:=w64 (by omega)
           (try simp (maxSteps:=2000000) only [go_sem,simprocAttr,e0,e1,e2,e3,e4,e5,e6,e7,e8,e9,e10,hrg,hlk,hR,lk])
           by_cases lj:j < R
           ·have hir:(ir eI ro).set j [IV.p (.sc (.int .i64 99))]=ir eI (ro.set j 99):=by rw [ir,ir,List.map_set];rfl
            (try simp (maxSteps:=2000000) only [go_sem,simprocAttr,if_pos lj,e0,e1,e2,e3,e4,e5,e6,e7,e8,e9,e10,hrg,hlk,hR,hir,hdr,lj,lk,hw])
            (try simp (maxSteps:=2000000) (disch:=omega) only [go_sem,simprocAttr,zD,zE,e0,e1,e2,e3,e4,e5,e6,e7,e8,e9,e10,hrg,hlk,hR,hir,hdr,lj])
            have hrf:refsR 3000 (v.set k (go,ro.set j 99))=refsR 3000 v:=refsR_sh hsh
            refine⟨(j+1,(v.set k (go,ro.set j 99))), [],⟨lj,⟨by rw [List.length_set];exact Gv.1,fun y hy=>?_⟩,?_⟩,by simp only;omega,?_⟩
            ·rcases List.mem_or_eq_of_mem_set hy with hy | rfl
             ·exact Gv.2 y hy
             ·simp only [List.length_set];omega
            ·simp only [List.getElem?_set_self lkv,Option.map_some,List.length_set,hR]
            ·constructor
             case blks=>
              (try simp (maxSteps:=2000000) (disch:=omega) only [go_sem,simprocAttr,zD,zE,hrf])
              refine fblks_mem fun q hq=>?_
              rcases kF_setcp (by rw [Lxp];omega) (by rw [Lv];omega) (by rw [Lxq];omega) (by rw [Lcq];omega) lkv hq with rfl | ⟨hq2,hne⟩
              ·rw [List.append_nil]
               exact look_cons.trans (if_pos rfl)
              ·have hd:=kF_dom (by rw [Lxp];omega) (by rw [Lv];omega) (by rw [Lxq];omega) (by rw [Lcq];omega) hq2
               rw [List.append_nil,look_cons,if_neg (fun c=>hne c.symm)]
               simp only [look_skip,dks,hd]
               exact kF_self (by rw [Lxp];omega)  (by rw [Lv];omega)  (by rw [Lxq];omega) hq2
             all_goals((try refine zO ?_);(try with_reducible exact True.intro))
           ·obtain rfl:j=R:=by omega
            (try simp (maxSteps:=2000000) (disch:=omega) only [go_sem,simprocAttr,zD,zE,e0,e1,e2,e3,e4,e5,e6,e7,e8,e9,e10,hrg,hlk,hR])
            refine⟨(k+1,v), [],⟨lk,Gv⟩,by simp only;omega,?_⟩
            constructor
            case blks=>
             ((try refine zW ?_);(try with_reducible exact True.intro))
             refine fblks_mem fun q hq=>?_
             have hd:=kF_dom (by rw [Lxp];omega) (by rw [Lv];omega) (by rw [Lxq];omega) (by rw [Lcq];omega) hq
             simp only [List.append_nil,look_skip,dks,hd]
             exact kF_self (by rw [Lxp];omega)  (by rw [Lv];omega)  (by rw [Lxq];omega) hq
            all_goals((try refine zO ?_);(try with_reducible exact True.intro))
         ·obtain rfl:k=h.out.length:=by omega
          ((try refine zO ?_);(try with_reducible exact True.intro))
          refine⟨(1,xp,cp,xq,cq), [],⟨by first | decide | (simp only;omega),Gxp,Gcp,Gxq,Gcq⟩,by first | decide | (simp only;omega),?_⟩
          constructor
          case blks=>
           ((try refine zW ?_);(try with_reducible exact True.intro))
           refine fblks_mem fun q hq=>?_
           have hd:=kF_dom (by rw [Lxp];omega) (by rw [Lcp];omega) (by rw [Lxq];omega) (by rw [Lcq];omega) hq
           simp only [List.append_nil,look_skip,dks,hd]
           exact kF_self (by rw [Lxp];omega)  (by rw [Lcp];omega)  (by rw [Lxq];omega) hq
          all_goals((try refine zO ?_);(try with_reducible exact True.intro))
     ·(try simp (maxSteps:=2000000) only [go_sem,simprocAttr,Int.natCast_zero])
      ((try refine zO ?_);(try with_reducible exact True.intro))
      refine walk_floop 200 200 (fun w:Nat × List (Nat × List (Int × Int))=>w.1≤h.inn.length∧good h.inn.length w.2)
       (fun w=>⟨169, [(4, .ptr 1 0 0 0),(7, .ptr 3 0 0 0),(13, .ref 9001 0 0 2),(14,sci .i64 1),(15,sci .i64 w.1)], [],9002,(9001, .arr 5 0 [[sci .i64 h.node,sci .i64 p.1,sci .i64 (h.steps+1), .ref 100 h.inn.length 0 h.inn.length, .ref 101 h.out.length 0 h.out.length], [sci .i64 h.node,sci .i64 stq,sci .i64 (h.steps+1), .ref 5010 h.inn.length 0 h.inn.length, .ref 5011 h.out.length 0 h.out.length]])::(100, .arr 1 h.inn.length (refsR 1000 xp))::(101, .arr 1 h.out.length (refsR 3000 cp))::(5010, .arr 1 h.inn.length (refsR 6000 w.2))::(5011, .arr 1 h.out.length (refsR 8000 cq))::(3, .arr 5 0 [[sci .i64 h.node,sci .i64 h.state,sci .i64 h.steps,lMs h.inn,lLs h.out]])::(1, .arr 5 0 [[sci .i64 h.node,sci .i64 h.state,sci .i64 h.steps,lMs h.inn,lLs h.out]])::kFam xp cp w.2 cq⟩) (fun w=>h.inn.length - w.1) (0,xq) [] ?_ ?_ ?_
      ·exact⟨Nat.zero_le _,Gxq⟩
      ·constructor
       case blks=>
        ((try refine zW ?_);(try with_reducible exact True.intro))
        refine fblks_mem fun q hq=>?_
        have hd:=kF_dom (by rw [Lxp];omega) (by rw [Lcp];omega) (by rw [Lxq];omega) (by rw [Lcq];omega) hq
        simp only [List.append_nil,look_skip,dks,hd]
        exact kF_self (by rw [Lxp];omega)  (by rw [Lcp];omega)  (by rw [Lxq];omega) hq
       all_goals(try simp (maxSteps:=2000000) (disch:=omega) only [go_sem,simprocAttr,zD,zE,Int.natCast_zero])
      ·clear Lxq Gxq xq
       rintro⟨k,xq⟩ ⟨k1,Gxq⟩
       simp only at k1 Gxq
       have Lxq:=Gxq.1
       by_cases lk:k < h.inn.length
       ·obtain⟨R,hR⟩: ∃R,((xq[k]?).map fun y=>y.2.length)=some R:=⟨_,by rw [List.getElem?_eq_getElem (by omega)];rfl⟩
        ((try refine zO ?_);(try with_reducible exact True.intro))
        refine walk_floop 200 200 (fun w:Nat × List (Nat × List (Int × Int))=>w.1≤R∧good h.inn.length w.2∧((w.2[k]?).map fun y=>y.2.length)=some R)
         (fun w=>⟨169, [(4, .ptr 1 0 0 0),(7, .ptr 3 0 0 0),(13, .ref 9001 0 0 2),(14,sci .i64 1),(15,sci .i64 k),(16,sci .i64 w.1)], [],9002,(9001, .arr 5 0 [[sci .i64 h.node,sci .i64 p.1,sci .i64 (h.steps+1), .ref 100 h.inn.length 0 h.inn.length, .ref 101 h.out.length 0 h.out.length], [sci .i64 h.node,sci .i64 stq,sci .i64 (h.steps+1), .ref 5010 h.inn.length 0 h.inn.length, .ref 5011 h.out.length 0 h.out.length]])::(100, .arr 1 h.inn.length (refsR 1000 xp))::(101, .arr 1 h.out.length (refsR 3000 cp))::(5010, .arr 1 h.inn.length (refsR 6000 w.2))::(5011, .arr 1 h.out.length (refsR 8000 cq))::(3, .arr 5 0 [[sci .i64 h.node,sci .i64 h.state,sci .i64 h.steps,lMs h.inn,lLs h.out]])::(1, .arr 5 0 [[sci .i64 h.node,sci .i64 h.state,sci .i64 h.steps,lMs h.inn,lLs h.out]])::kFam xp cp w.2 cq⟩) (fun w=>R - w.1) (0,xq) [] ?_ ?_ ?_
        ·exact⟨Nat.zero_le _,Gxq,hR⟩
        ·constructor
         case blks=>
          ((try refine zW ?_);(try with_reducible exact True.intro))
          refine fblks_mem fun q hq=>?_
          have hd:=kF_dom (by rw [Lxp];omega) (by rw [Lcp];omega) (by rw [Lxq];omega) (by rw [Lcq];omega) hq
          simp only [List.append_nil,look_skip,dks,hd]
          exact kF_self (by rw [Lxp];omega)  (by rw [Lcp];omega)  (by rw [Lxq];omega) hq
         all_goals(try simp (maxSteps:=2000000) (disch:=omega) only [go_sem,simprocAttr,zD,zE,Int.natCast_zero])
        ·clear hR Lxq Gxq xq
         rintro⟨j,v⟩ ⟨j1,Gv,hR⟩
         simp only at j1 Gv hR
         have Lv:=Gv.1
         have lkv:k < v.length:=by omega
         have hkb:=Gv.2 _ (List.getElem_mem lkv)
         rw [List.getElem?_eq_getElem lkv,Option.map_some] at hR
         have hrg:(refsR 6000 v)[k]? =some [.ref (6000+k) v[k].1 0 v[k].2.length]:=refsR_get lkv
         have hlk:Idl.look (kFam xp cp v cq) (6000+k)=some (.arr 2 v[k].1 (ir eII v[k].2)):=kF_xq (by rw [Lxp];omega)  (by rw [Lcp];omega)  (by rw [Lv];omega) lkv
         have hsh:=sh_set (xs:=v) (k:=k) (j:=j) (v:=((99,0):Int × Int)) lkv
         have hdr: ∀t:Int × Int,List.drop 2 (List.map IV.p (eII t))= []:=fun _=>rfl
         generalize hvk:v[k]=o at *
         obtain⟨go,ro⟩:=o
         simp only [Option.some.injEq] at hkb hR hrg hlk hsh
         have e0:(9001=6000+k)=False:=eq_false (by omega)
         have e1:(9000=6000+k)=False:=eq_false (by omega)
         have e2:(5010=6000+k)=False:=eq_false (by omega)
         have e3:(5011=6000+k)=False:=eq_false (by omega)
         have e4:(5000=6000+k)=False:=eq_false (by omega)
         have e5:(100=6000+k)=False:=eq_false (by omega)
         have e6:(101=6000+k)=False:=eq_false (by omega)
         have e7:(3=6000+k)=False:=eq_false (by omega)
         have e8:(1=6000+k)=False:=eq_false (by omega)
         have e9:(0=6000+k)=False:=eq_false (by omega)
         have e10:(2=6000+k)=False:=eq_false (by omega)
         have hw:IntKind.i64.wrap ((j:Int)+1)=(j:Int)+1:=w64 (by omega)
         (try simp (maxSteps:=2000000) only [go_sem,simprocAttr,e0,e1,e2,e3,e4,e5,e6,e7,e8,e9,e10,hrg,hlk,hR,lk])
         by_cases lj:j < R
         ·have hir:(ir eII ro).set j [IV.p (.sc (.int .i64 99)),IV.p (.sc (.int .i64 0))]=ir eII (ro.set j (99,0)):=by rw [ir,ir,List.map_set];rfl
          (try simp (maxSteps:=2000000) only [go_sem,simprocAttr,if_pos lj,e0,e1,e2,e3,e4,e5,e6,e7,e8,e9,e10,hrg,hlk,hR,hir,hdr,lj,lk,hw])
          (try simp (maxSteps:=2000000) (disch:=omega) only [go_sem,simprocAttr,zD,zE,e0,e1,e2,e3,e4,e5,e6,e7,e8,e9,e10,hrg,hlk,hR,hir,hdr,lj])
          have hrf:refsR 6000 (v.set k (go,ro.set j (99,0)))=refsR 6000 v:=refsR_sh hsh
          refine⟨(j+1,(v.set k (go,ro.set j (99,0)))), [],⟨lj,⟨by rw [List.length_set];exact Gv.1,fun y hy=>?_⟩,?_⟩,by simp only;omega,?_⟩
          ·rcases List.mem_or_eq_of_mem_set hy with hy | rfl
           ·exact Gv.2 y hy
           ·simp only [List.length_set];omega
          ·simp only [List.getElem?_set_self lkv,Option.map_some,List.length_set,hR]
          ·constructor
           case blks=>
            (try simp (maxSteps:=2000000) (disch:=omega) only [go_sem,simprocAttr,zD,zE,hrf])
            refine fblks_mem fun q hq=>?_
            rcases kF_setxq (by rw [Lxp];omega) (by rw [Lcp];omega) (by rw [Lv];omega) (by rw [Lcq];omega) lkv hq with rfl | ⟨hq2,hne⟩
            ·rw [List.append_nil]
             exact look_cons.trans (if_pos rfl)
            ·have hd:=kF_dom (by rw [Lxp];omega) (by rw [Lcp];omega) (by rw [Lv];omega) (by rw [Lcq];omega) hq2
             rw [List.append_nil,look_cons,if_neg (fun c=>hne c.symm)]
             simp only [look_skip,dks,hd]
             exact kF_self (by rw [Lxp];omega)  (by rw [Lcp];omega)  (by rw [Lv];omega) hq2
           all_goals((try refine zO ?_);(try with_reducible exact True.intro))
         ·obtain rfl:j=R:=by omega
          (try simp (maxSteps:=2000000) (disch:=omega) only [go_sem,simprocAttr,zD,zE,e0,e1,e2,e3,e4,e5,e6,e7,e8,e9,e10,hrg,hlk,hR])
          refine⟨(k+1,v), [],⟨lk,Gv⟩,by simp only;omega,?_⟩
          constructor
          case blks=>
           ((try refine zW ?_);(try with_reducible exact True.intro))
           refine fblks_mem fun q hq=>?_
           have hd:=kF_dom (by rw [Lxp];omega) (by rw [Lcp];omega) (by rw [Lv];omega) (by rw [Lcq];omega) hq
           simp only [List.append_nil,look_skip,dks,hd]
           exact kF_self (by rw [Lxp];omega)  (by rw [Lcp];omega)  (by rw [Lv];omega) hq
          all_goals((try refine zO ?_);(try with_reducible exact True.intro))
       ·obtain rfl:k=h.inn.length:=by omega
        ((try refine zO ?_);(try with_reducible exact True.intro))
        refine walk_floop 200 200 (fun w:Nat × List (Nat × List (Int))=>w.1≤h.out.length∧good h.out.length w.2)
         (fun w=>⟨169, [(4, .ptr 1 0 0 0),(7, .ptr 3 0 0 0),(13, .ref 9001 0 0 2),(14,sci .i64 1),(17,sci .i64 w.1)], [],9002,(9001, .arr 5 0 [[sci .i64 h.node,sci .i64 p.1,sci .i64 (h.steps+1), .ref 100 h.inn.length 0 h.inn.length, .ref 101 h.out.length 0 h.out.length], [sci .i64 h.node,sci .i64 stq,sci .i64 (h.steps+1), .ref 5010 h.inn.length 0 h.inn.length, .ref 5011 h.out.length 0 h.out.length]])::(100, .arr 1 h.inn.length (refsR 1000 xp))::(101, .arr 1 h.out.length (refsR 3000 cp))::(5010, .arr 1 h.inn.length (refsR 6000 xq))::(5011, .arr 1 h.out.length (refsR 8000 w.2))::(3, .arr 5 0 [[sci .i64 h.node,sci .i64 h.state,sci .i64 h.steps,lMs h.inn,lLs h.out]])::(1, .arr 5 0 [[sci .i64 h.node,sci .i64 h.state,sci .i64 h.steps,lMs h.inn,lLs h.out]])::kFam xp cp xq w.2⟩) (fun w=>h.out.length - w.1) (0,cq) [] ?_ ?_ ?_
        ·exact⟨Nat.zero_le _,Gcq⟩
        ·constructor
         case blks=>
          ((try refine zW ?_);(try with_reducible exact True.intro))
          refine fblks_mem fun q hq=>?_
          have hd:=kF_dom (by rw [Lxp];omega) (by rw [Lcp];omega) (by rw [Lxq];omega) (by rw [Lcq];omega) hq
          simp only [List.append_nil,look_skip,dks,hd]
          exact kF_self (by rw [Lxp];omega)  (by rw [Lcp];omega)  (by rw [Lxq];omega) hq
         all_goals(try simp (maxSteps:=2000000) (disch:=omega) only [go_sem,simprocAttr,zD,zE,Int.natCast_zero])
        ·clear Lcq Gcq cq
         rintro⟨k,cq⟩ ⟨k1,Gcq⟩
         simp only at k1 Gcq
         have Lcq:=Gcq.1
         by_cases lk:k < h.out.length
         ·obtain⟨R,hR⟩: ∃R,((cq[k]?).map fun y=>y.2.length)=some R:=⟨_,by rw [List.getElem?_eq_getElem (by omega)];rfl⟩
          ((try refine zO ?_);(try with_reducible exact True.intro))
          refine walk_floop 200 200 (fun w:Nat × List (Nat × List (Int))=>w.1≤R∧good h.out.length w.2∧((w.2[k]?).map fun y=>y.2.length)=some R)
           (fun w=>⟨169, [(4, .ptr 1 0 0 0),(7, .ptr 3 0 0 0),(13, .ref 9001 0 0 2),(14,sci .i64 1),(17,sci .i64 k),(18,sci .i64 w.1)], [],9002,(9001, .arr 5 0 [[sci .i64 h.node,sci .i64 p.1,sci .i64 (h.steps+1), .ref 100 h.inn.length 0 h.inn.length, .ref 101 h.out.length 0 h.out.length], [sci .i64 h.node,sci .i64 stq,sci .i64 (h.steps+1), .ref 5010 h.inn.length 0 h.inn.length, .ref 5011 h.out.length 0 h.out.length]])::(100, .arr 1 h.inn.length (refsR 1000 xp))::(101, .arr 1 h.out.length (refsR 3000 cp))::(5010, .arr 1 h.inn.length (refsR 6000 xq))::(5011, .arr 1 h.out.length (refsR 8000 w.2))::(3, .arr 5 0 [[sci .i64 h.node,sci .i64 h.state,sci .i64 h.steps,lMs h.inn,lLs h.out]])::(1, .arr 5 0 [[sci .i64 h.node,sci .i64 h.state,sci .i64 h.steps,lMs h.inn,lLs h.out]])::kFam xp cp xq w.2⟩) (fun w=>R - w.1) (0,cq) [] ?_ ?_ ?_
          ·exact⟨Nat.zero_le _,Gcq,hR⟩
          ·constructor
           case blks=>
            ((try refine zW ?_);(try with_reducible exact True.intro))
            refine fblks_mem fun q hq=>?_
            have hd:=kF_dom (by rw [Lxp];omega) (by rw [Lcp];omega) (by rw [Lxq];omega) (by rw [Lcq];omega) hq
            simp only [List.append_nil,look_skip,dks,hd]
            exact kF_self (by rw [Lxp];omega)  (by rw [Lcp];omega)  (by rw [Lxq];omega) hq
           all_goals(try simp (maxSteps:=2000000) (disch:=omega) only [go_sem,simprocAttr,zD,zE,Int.natCast_zero])
          ·clear hR Lcq Gcq cq
           rintro⟨j,v⟩ ⟨j1,Gv,hR⟩
           simp only at j1 Gv hR
           have Lv:=Gv.1
           have lkv:k < v.length:=by omega
           have hkb:=Gv.2 _ (List.getElem_mem lkv)
           rw [List.getElem?_eq_getElem lkv,Option.map_some] at hR
           have hrg:(refsR 8000 v)[k]? =some [.ref (8000+k) v[k].1 0 v[k].2.length]:=refsR_get lkv
           have hlk:Idl.look (kFam xp cp xq v) (8000+k)=some (.arr 1 v[k].1 (ir eI v[k].2)):=kF_cq (by rw [Lxp];omega)  (by rw [Lcp];omega)  (by rw [Lxq];omega) lkv
           have hsh:=sh_set (xs:=v) (k:=k) (j:=j) (v:=(99:Int)) lkv
           have hdr: ∀t:Int,List.drop 1 (List.map IV.p (eI t))= []:=fun _=>rfl
           generalize hvk:v[k]=o at *
           obtain⟨go,ro⟩:=o
           simp only [Option.some.injEq] at hkb hR hrg hlk hsh
           have e0:(9001=8000+k)=False:=eq_false (by omega)
           have e1:(9000=8000+k)=False:=eq_false (by omega)
           have e2:(5010=8000+k)=False:=eq_false (by omega)
           have e3:(5011=8000+k)=False:=eq_false (by omega)
           have e4:(5000=8000+k)=False:=eq_false (by omega)
           have e5:(100=8000+k)=False:=eq_false (by omega)
           have e6:(101=8000+k)=False:=eq_false (by omega)
           have e7:(3=8000+k)=False:=eq_false (by omega)
           have e8:(1=8000+k)=False:=eq_false (by omega)
           have e9:(0=8000+k)=False:=eq_false (by omega)
           have e10:(2=8000+k)=False:=eq_false (by omega)
           have hw:IntKind.i64.wrap ((j:Int)+1)=(j:Int)+1:=w64 (by omega)
           (try simp (maxSteps:=2000000) only [go_sem,simprocAttr,e0,e1,e2,e3,e4,e5,e6,e7,e8,e9,e10,hrg,hlk,hR,lk])
           by_cases lj:j < R
           ·have hir:(ir eI ro).set j [IV.p (.sc (.int .i64 99))]=ir eI (ro.set j 99):=by rw [ir,ir,List.map_set];rfl
            (try simp (maxSteps:=2000000) only [go_sem,simprocAttr,if_pos lj,e0,e1,e2,e3,e4,e5,e6,e7,e8,e9,e10,hrg,hlk,hR,hir,hdr,lj,lk,hw])
            (try simp (maxSteps:=2000000) (disch:=omega) only [go_sem,simprocAttr,zD,zE,e0,e1,e2,e3,e4,e5,e6,e7,e8,e9,e10,hrg,hlk,hR,hir,hdr,lj])
            have hrf:refsR 8000 (v.set k (go,ro.set j 99))=refsR 8000 v:=refsR_sh hsh
            refine⟨(j+1,(v.set k (go,ro.set j 99))), [],⟨lj,⟨by rw [List.length_set];exact Gv.1,fun y hy=>?_⟩,?_⟩,by simp only;omega,?_⟩
            ·rcases List.mem_or_eq_of_mem_set hy with hy | rfl
             ·exact Gv.2 y hy
             ·simp only [List.length_set];omega
            ·simp only [List.getElem?_set_self lkv,Option.map_some,List.length_set,hR]
            ·constructor
             case blks=>
              (try simp (maxSteps:=2000000) (disch:=omega) only [go_sem,simprocAttr,zD,zE,hrf])
              refine fblks_mem fun q hq=>?_
              rcases kF_setcq (by rw [Lxp];omega) (by rw [Lcp];omega) (by rw [Lxq];omega) (by rw [Lv];omega) lkv hq with rfl | ⟨hq2,hne⟩
              ·rw [List.append_nil]
               exact look_cons.trans (if_pos rfl)
              ·have hd:=kF_dom (by rw [Lxp];omega) (by rw [Lcp];omega) (by rw [Lxq];omega) (by rw [Lv];omega) hq2
               rw [List.append_nil,look_cons,if_neg (fun c=>hne c.symm)]
               simp only [look_skip,dks,hd]
               exact kF_self (by rw [Lxp];omega)  (by rw [Lcp];omega)  (by rw [Lxq];omega) hq2
             all_goals((try refine zO ?_);(try with_reducible exact True.intro))
           ·obtain rfl:j=R:=by omega
            (try simp (maxSteps:=2000000) (disch:=omega) only [go_sem,simprocAttr,zD,zE,e0,e1,e2,e3,e4,e5,e6,e7,e8,e9,e10,hrg,hlk,hR])
            refine⟨(k+1,v), [],⟨lk,Gv⟩,by simp only;omega,?_⟩
            constructor
            case blks=>
             ((try refine zW ?_);(try with_reducible exact True.intro))
             refine fblks_mem fun q hq=>?_
             have hd:=kF_dom (by rw [Lxp];omega) (by rw [Lcp];omega) (by rw [Lxq];omega) (by rw [Lv];omega) hq
             simp only [List.append_nil,look_skip,dks,hd]
             exact kF_self (by rw [Lxp];omega)  (by rw [Lcp];omega)  (by rw [Lxq];omega) hq
            all_goals((try refine zO ?_);(try with_reducible exact True.intro))
         ·obtain rfl:k=h.out.length:=by omega
          ((try refine zO ?_);(try with_reducible exact True.intro))
          refine⟨(2,xp,cp,xq,cq), [],⟨by first | decide | (simp only;omega),Gxp,Gcp,Gxq,Gcq⟩,by first | decide | (simp only;omega),?_⟩
          constructor
          case blks=>
           ((try refine zW ?_);(try with_reducible exact True.intro))
           refine fblks_mem fun q hq=>?_
           have hd:=kF_dom (by rw [Lxp];omega) (by rw [Lcp];omega) (by rw [Lxq];omega) (by rw [Lcq];omega) hq
           simp only [List.append_nil,look_skip,dks,hd]
           exact kF_self (by rw [Lxp];omega)  (by rw [Lcp];omega)  (by rw [Lxq];omega) hq
          all_goals((try refine zO ?_);(try with_reducible exact True.intro))
     ·(try simp (maxSteps:=2000000) only [go_sem,simprocAttr,Int.natCast_zero])
      ((try refine zO ?_);(try with_reducible exact True.intro))
      refine walk_fcut 200 [] ⟨169, [(135,lHs h),(4, .ptr 1 0 0 0),(7, .ptr 3 0 0 0)], [],4, [(3, .arr 5 0 [[sci .i64 h.node,sci .i64 h.state,sci .i64 h.steps,lMs h.inn,lLs h.out]]),(1, .arr 5 0 [[sci .i64 h.node,sci .i64 h.state,sci .i64 h.steps,lMs h.inn,lLs h.out]])]⟩ trivial ?_ ?_
      ·constructor<;>((try refine zO ?_);(try with_reducible exact True.intro))
      obtain⟨X,hX⟩: ∃X:List Int,X=h.out.map fun l=>(l.length:Int):=⟨_,rfl⟩
      have hSF:=PieceFF_blk h f.gHs hX rfl
      rw [ffW_gfW] at hSF
      have hfi:=freshF_len h.inn
      have hfo:=freshF_len h.out
      have Si: ∀t u,t < 2+h.inn.length+h.out.length→u < 2+h.inn.length+h.out.length→νG 100 1000 101 3000 h.inn.length t=νG 100 1000 101 3000 h.inn.length u→t=u:=fun t u ht hu e=>νG_inj (by decide) (by decide) (by omega) ht hu e
      have Sb: ∀t,t < 2+h.inn.length+h.out.length→4≤νG 100 1000 101 3000 h.inn.length t∧νG 100 1000 101 3000 h.inn.length t < 5000:=fun t ht=>by have:=νG_bd (o1:=100) (k1:=1000) (o2:=101) (k2:=3000) (n:=5000) (by decide) (by decide) (by omega) (by omega) ht;omega
      have S0:νG 100 1000 101 3000 h.inn.length 0=100:=rfl
      have S1:νG 100 1000 101 3000 h.inn.length (1+h.inn.length)=101:=by unfold νG;rw [if_neg (by omega),if_neg (by omega),if_pos rfl]
      have SW:=νG_gfW (o1:=100) (k1:=1000) (o2:=101) (k2:=3000) (xs:=freshF h.inn) (cur:=freshF h.out)
      rw [hfi,hfo] at SW
      have Gxp:=good_fresh f.gHs.inns
      have Gcp:=good_fresh f.gHs.outs
      generalize gfW (freshF h.inn) (freshF h.out)=WS at hSF SW
      generalize νG 100 1000 101 3000 h.inn.length=νS at *
      refine at_gN 200 νS 5000 hSF Si Sb (by omega) ?_
      rw [SW]
      generalize freshF h.inn=xp at *
      generalize freshF h.out=cp at *
      have Lxp:=Gxp.1
      have Lcp:=Gcp.1
      (try simp (maxSteps:=2000000) (disch:=omega) only [go_sem,simprocAttr,zD,zE,S0,S1,look_famo,hfi,hfo])
      clear hSF Si Sb S0 S1 SW hfi hfo
      refine walk_floop 200 200 (fun w:Nat × List (Nat × List (Int × Int))=>w.1≤h.inn.length∧good h.inn.length w.2)
       (fun w=>⟨169, [(4, .ptr 1 0 0 0),(7, .ptr 3 0 0 0),(19, .ptr 5000 0 0 0),(20,sci .i64 w.1)], [],5001,(5000, .arr 6 0 [[sci .i64 h.node,sci .i64 h.state,sci .i64 h.steps,lI X, .ref 100 h.inn.length 0 h.inn.length, .ref 101 h.out.length 0 h.out.length]])::(100, .arr 1 h.inn.length (refsR 1000 w.2))::(101, .arr 1 h.out.length (refsR 3000 cp))::(3, .arr 5 0 [[sci .i64 h.node,sci .i64 h.state,sci .i64 h.steps,lMs h.inn,lLs h.out]])::(1, .arr 5 0 [[sci .i64 h.node,sci .i64 h.state,sci .i64 h.steps,lMs h.inn,lLs h.out]])::kFam w.2 cp [] []⟩) (fun w=>h.inn.length - w.1) (0,xp) [] ?_ ?_ ?_
      ·exact⟨Nat.zero_le _,Gxp⟩
      ·constructor
       case blks=>
        (try simp (maxSteps:=2000000) (disch:=omega) only [go_sem,simprocAttr,zD,zE,look_famo,Lxp,Lcp])
        refine fblks_mem fun q hq=>?_
        rcases kF_cases hq with ⟨t,ht,rfl⟩ | ⟨t,ht,rfl⟩ | ⟨t,ht,rfl⟩ | ⟨t,ht,rfl⟩
        ·have ht2:=ht
         rw [Lxp] at ht2
         have e0:(5000=1000+t)=False:=eq_false (by omega)
         have e1:(100=1000+t)=False:=eq_false (by omega)
         have e2:(101=1000+t)=False:=eq_false (by omega)
         have e3:(3=1000+t)=False:=eq_false (by omega)
         have e4:(1=1000+t)=False:=eq_false (by omega)
         have hk:=look_fam (sz:=2) (e:=eII) (k:=1000) (r:= []) ht
         rw [List.append_nil] at hk
         (try simp (maxSteps:=2000000) (disch:=omega) only [go_sem,simprocAttr,zD,zE,e0,e1,e2,e3,e4,look_famo,Lxp,Lcp,look_fam ht,hk])
        ·have ht2:=ht
         rw [Lcp] at ht2
         have e0:(5000=3000+t)=False:=eq_false (by omega)
         have e1:(100=3000+t)=False:=eq_false (by omega)
         have e2:(101=3000+t)=False:=eq_false (by omega)
         have e3:(3=3000+t)=False:=eq_false (by omega)
         have e4:(1=3000+t)=False:=eq_false (by omega)
         have hk:=look_fam (sz:=1) (e:=eI) (k:=3000) (r:= []) ht
         rw [List.append_nil] at hk
         (try simp (maxSteps:=2000000) (disch:=omega) only [go_sem,simprocAttr,zD,zE,e0,e1,e2,e3,e4,look_famo,Lxp,Lcp,look_fam ht,hk])
        ·simp at ht
        ·simp at ht
       all_goals(try simp (maxSteps:=2000000) (disch:=omega) only [go_sem,simprocAttr,zD,zE,Int.natCast_zero])
      ·clear Lxp Gxp xp
       rintro⟨k,xp⟩ ⟨k1,Gxp⟩
       simp only at k1 Gxp
       have Lxp:=Gxp.1
       by_cases lk:k < h.inn.length
       ·obtain⟨R,hR⟩: ∃R,((xp[k]?).map fun y=>y.2.length)=some R:=⟨_,by rw [List.getElem?_eq_getElem (by omega)];rfl⟩
        ((try refine zO ?_);(try with_reducible exact True.intro))
        refine walk_floop 200 200 (fun w:Nat × List (Nat × List (Int × Int))=>w.1≤R∧good h.inn.length w.2∧((w.2[k]?).map fun y=>y.2.length)=some R)
         (fun w=>⟨169, [(4, .ptr 1 0 0 0),(7, .ptr 3 0 0 0),(19, .ptr 5000 0 0 0),(20,sci .i64 k),(21,sci .i64 w.1)], [],5001,(5000, .arr 6 0 [[sci .i64 h.node,sci .i64 h.state,sci .i64 h.steps,lI X, .ref 100 h.inn.length 0 h.inn.length, .ref 101 h.out.length 0 h.out.length]])::(100, .arr 1 h.inn.length (refsR 1000 w.2))::(101, .arr 1 h.out.length (refsR 3000 cp))::(3, .arr 5 0 [[sci .i64 h.node,sci .i64 h.state,sci .i64 h.steps,lMs h.inn,lLs h.out]])::(1, .arr 5 0 [[sci .i64 h.node,sci .i64 h.state,sci .i64 h.steps,lMs h.inn,lLs h.out]])::kFam w.2 cp [] []⟩) (fun w=>R - w.1) (0,xp) [] ?_ ?_ ?_
        ·exact⟨Nat.zero_le _,Gxp,hR⟩
        ·constructor
         case blks=>
          ((try refine zW ?_);(try with_reducible exact True.intro))
          refine fblks_mem fun q hq=>?_
          have hd:=kF_dom (by rw [Lxp];omega) (by rw [Lcp];omega) (by decide) (by decide) hq
          simp only [List.append_nil,look_skip,dks,hd]
          exact kF_self (by rw [Lxp];omega)  (by rw [Lcp];omega)  (by decide) hq
         all_goals(try simp (maxSteps:=2000000) (disch:=omega) only [go_sem,simprocAttr,zD,zE,Int.natCast_zero])
        ·clear hR Lxp Gxp xp
         rintro⟨j,v⟩ ⟨j1,Gv,hR⟩
         simp only at j1 Gv hR
         have Lv:=Gv.1
         have lkv:k < v.length:=by omega
         have hkb:=Gv.2 _ (List.getElem_mem lkv)
         rw [List.getElem?_eq_getElem lkv,Option.map_some] at hR
         have hrg:(refsR 1000 v)[k]? =some [.ref (1000+k) v[k].1 0 v[k].2.length]:=refsR_get lkv
         have hlk:Idl.look (kFam v cp [] []) (1000+k)=some (.arr 2 v[k].1 (ir eII v[k].2)):=kF_xp (by rw [Lv];omega) lkv
         have hsh:=sh_set (xs:=v) (k:=k) (j:=j) (v:=((98,0):Int × Int)) lkv
         have hdr: ∀t:Int × Int,List.drop 2 (List.map IV.p (eII t))= []:=fun _=>rfl
         generalize hvk:v[k]=o at *
         obtain⟨go,ro⟩:=o
         simp only [Option.some.injEq] at hkb hR hrg hlk hsh
         have e0:(5000=1000+k)=False:=eq_false (by omega)
         have e1:(100=1000+k)=False:=eq_false (by omega)
         have e2:(101=1000+k)=False:=eq_false (by omega)
         have e3:(3=1000+k)=False:=eq_false (by omega)
         have e4:(1=1000+k)=False:=eq_false (by omega)
         have hw:IntKind.i64.wrap ((j:Int)+1)=(j:Int)+1:=w64 (by omega)
         (try simp (maxSteps:=2000000) only [go_sem,simprocAttr,e0,e1,e2,e3,e4,hrg,hlk,hR,lk])
         by_cases lj:j < R
         ·have hir:(ir eII ro).set j [IV.p (.sc (.int .i64 98)),IV.p (.sc (.int .i64 0))]=ir eII (ro.set j (98,0)):=by rw [ir,ir,List.map_set];rfl
          (try simp (maxSteps:=2000000) only [go_sem,simprocAttr,if_pos lj,e0,e1,e2,e3,e4,hrg,hlk,hR,hir,hdr,lj,lk,hw])
          (try simp (maxSteps:=2000000) (disch:=omega) only [go_sem,simprocAttr,zD,zE,e0,e1,e2,e3,e4,hrg,hlk,hR,hir,hdr,lj])
          have hrf:refsR 1000 (v.set k (go,ro.set j (98,0)))=refsR 1000 v:=refsR_sh hsh
          refine⟨(j+1,(v.set k (go,ro.set j (98,0)))), [],⟨lj,⟨by rw [List.length_set];exact Gv.1,fun y hy=>?_⟩,?_⟩,by simp only;omega,?_⟩
          ·rcases List.mem_or_eq_of_mem_set hy with hy | rfl
           ·exact Gv.2 y hy
           ·simp only [List.length_set];omega
          ·simp only [List.getElem?_set_self lkv,Option.map_some,List.length_set,hR]
          ·constructor
           case blks=>
            (try simp (maxSteps:=2000000) (disch:=omega) only [go_sem,simprocAttr,zD,zE,hrf])
            refine fblks_mem fun q hq=>?_
            rcases kF_setxp (by rw [Lv];omega) (by rw [Lcp];omega) (by decide) (by decide) lkv hq with rfl | ⟨hq2,hne⟩
            ·rw [List.append_nil]
             exact look_cons.trans (if_pos rfl)
            ·have hd:=kF_dom (by rw [Lv];omega) (by rw [Lcp];omega) (by decide) (by decide) hq2
             rw [List.append_nil,look_cons,if_neg (fun c=>hne c.symm)]
             simp only [look_skip,dks,hd]
             exact kF_self (by rw [Lv];omega)  (by rw [Lcp];omega)  (by decide) hq2
           all_goals((try refine zO ?_);(try with_reducible exact True.intro))
         ·obtain rfl:j=R:=by omega
          (try simp (maxSteps:=2000000) (disch:=omega) only [go_sem,simprocAttr,zD,zE,e0,e1,e2,e3,e4,hrg,hlk,hR])
          refine⟨(k+1,v), [],⟨lk,Gv⟩,by simp only;omega,?_⟩
          constructor
          case blks=>
           ((try refine zW ?_);(try with_reducible exact True.intro))
           refine fblks_mem fun q hq=>?_
           have hd:=kF_dom (by rw [Lv];omega) (by rw [Lcp];omega) (by decide) (by decide) hq
           simp only [List.append_nil,look_skip,dks,hd]
           exact kF_self (by rw [Lv];omega)  (by rw [Lcp];omega)  (by decide) hq
          all_goals((try refine zO ?_);(try with_reducible exact True.intro))
       ·obtain rfl:k=h.inn.length:=by omega
        ((try refine zO ?_);(try with_reducible exact True.intro))
        (refine walk_trim [4,7] trivial zL ?_;(refine zW ?_;try with_reducible exact True.intro);refine irun_walk (id:=34) (n:=200) [none,some [2],none,some [],none,some [],none,none] mixed (by kernel_rfl) ?_)
        ((try refine zW ?_);(try with_reducible exact True.intro))
        (refine at_dcall ?_;(refine zW ?_;try with_reducible exact True.intro);refine callA_of (L9Ref_spec h) zB ?_;((try refine zW ?_);(try with_reducible exact True.intro)))
        ((try refine zW ?_);(try with_reducible exact True.intro))
        (refine at_dcall ?_;(refine zW ?_;try with_reducible exact True.intro);refine callA_of (R9SameR_spec h f.gHs) zB ?_;((try refine zW ?_);(try with_reducible exact True.intro)))
        ((try refine zW ?_);(try with_reducible exact True.intro))
        (refine at_dcall ?_;(refine zW ?_;try with_reducible exact True.intro);refine callA_of (fixed_spec) zB ?_;((try refine zW ?_);(try with_reducible exact True.intro)))
        ((try refine zW ?_);(try with_reducible exact True.intro))
 ·have eH:=tB_neg hH
  (try simp (maxSteps:=2000000) (disch:=omega) only [go_sem,simprocAttr,zD,zE,eH])
  (refine at_call 200 ?_;(refine zW ?_;try with_reducible exact True.intro);refine callA_of (hRight_spec ⟨N,ls,T,ff,room,acts⟩ h kl hT hg) zB ?_;((try refine zW ?_);(try with_reducible exact True.intro)))
  (try simp (maxSteps:=2000000) (disch:=omega) only [go_sem,simprocAttr,zD,zE,eH])
  (refine at_call 200 ?_;(refine zW ?_;try with_reducible exact True.intro);refine callA_of (fixed_spec) zB ?_;((try refine zW ?_);(try with_reducible exact True.intro)))
  ((try refine zO ?_);(try with_reducible exact True.intro))
end Go.Proofs.HO
