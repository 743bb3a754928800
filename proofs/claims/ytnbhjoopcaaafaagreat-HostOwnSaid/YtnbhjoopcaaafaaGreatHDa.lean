/- Facts that the proofs of this claim lean on. -/
import Derived.Test.YtnbhjoopcaaafaaGreatHOw
import Derived.Test.YtnbhjoopcaaafaaGreatHS1
import Derived.Test.YtnbhjoopcaaafaaGreatHP2
import Derived.Test.YtnbhjoopcaaafaaGreatHGb
set_option linter.unusedSimpArgs false
set_option linter.unusedVariables false
/- Hosts that may be: what is known of them, and what stays so. Plain law. -/
namespace Go.Proofs.HO
open Go Go.Idl Go.Proofs Go.GP
theorem ris_len: ∀ {last:Int} {l:List (Int × Int)},RisP last l→last≤500→(l.length:Int)≤500 - last
 | _, [],_,h=>by simp;omega
 | last,x::r,h,h2=>by
   have h3:=ris_len h.2 h.1.2.1
   have:=h.1.1
   simp only [List.length_cons];omega
theorem ris_all: ∀ {last:Int} {l:List (Int × Int)},RisP last l→ ∀x∈l,x.1≤500∧0≤x.2∧x.2≤3
 | _, [],_,x,hx=>by simp at hx
 | last,y::r,h,x,hx=>by
   rcases List.mem_cons.1 hx with rfl | hx
   ·exact h.1.2
   ·exact ris_all h.2 x hx
theorem ris_of {last:Int}: ∀ {l:List (Int × Int)},l.Pairwise (fun a b:Int × Int=>a.1 < b.1)→(∀x∈l,last < x.1)→(∀x∈l,x.1≤500∧0≤x.2∧x.2≤3)→RisP last l
 | [],_,_,_=>trivial
 | x::r,hp,h1,h2=>by
   rw [List.pairwise_cons] at hp
   exact⟨⟨h1 x (by simp),h2 x (by simp)⟩,ris_of hp.2 hp.1 fun y hy=>h2 y (by simp [hy])⟩
theorem ris_ins {l:List (Int × Int)} {m:Int × Int} (h:RisP 0 l) (hn: ∀y∈l,y.1≠m.1) (h1:1≤m.1∧m.1≤500) (h2:0≤m.2∧m.2 < 4):RisP 0 (sIns l m):=by
 obtain⟨hp,hl⟩:=ris_pw h
 refine ris_of (sIns_up hp hn) (fun x hx=>?_) fun x hx=>?_
 ·rcases sIns_mem.1 hx with rfl | hx
  ·omega
  ·exact hl x hx
 ·rcases sIns_mem.1 hx with rfl | hx
  ·omega
  ·exact ris_all h x hx
structure HF (N:Int) (ls:List (Int × Int)) (T:List Nd) (h:Hs) (n j:Nat) (nd:Nd) (st:St):Prop where
 tab:TabP N ls T
 hn:h.node=n
 hj:h.state=j
 nN:(n:Int) < N
 hx:T[n]? =some nd
 hq:nd.states[j]? =some st
 may:MayP ls n nd.states st
 inl:h.inn.length=(ins h.node 0 ls).length
 outl:h.out.length=(outs h.node 0 ls).length
 st0:0≤h.steps∧h.steps≤2147483647
 in5:h.inn.length≤5
 out5:h.out.length≤5
 ris: ∀l∈h.inn,RisP 0 l
 lets: ∀l∈h.out,l.length≤500∧LetsP l
theorem HF.of {N:Int} {ls:List (Int × Int)} {T:List Nd} {h:Hs} (hH:HostP N ls T h): ∃n j nd st,HF N ls T h n j nd st:=by
 obtain⟨hTab,hn0,hnN,hs0,hsl,hil,hol,hst1,hst2,hil5,hol5,hris,hout⟩:=hH
 have hnl:h.node.toNat < T.length:=by have:=hTab.2.1;omega
 have hnd:=List.getElem?_eq_getElem hnl
 have hjl:h.state.toNat < T[h.node.toNat].states.length:=by have:=hsl _ hnd;omega
 have hst:=List.getElem?_eq_getElem hjl
 exact⟨h.node.toNat,h.state.toNat,_,_,hTab,by omega,by omega,by omega,hnd,hst,(hTab.2.2 _ _ hnd).2.2.2 _ _ hst,hil,hol,⟨hst1,hst2⟩,hil5,hol5,
  fun l hl=>by
   obtain⟨q,hq⟩:=List.mem_iff_getElem?.1 hl
   exact hris q l (List.getElem?_eq_some_iff.1 hq).1 hq,
  fun l hl=>by
   obtain⟨q,hq⟩:=List.mem_iff_getElem?.1 hl
   exact hout q l (List.getElem?_eq_some_iff.1 hq).1 hq⟩
section
variable {N:Int} {ls:List (Int × Int)} {T:List Nd} {h:Hs} {n j:Nat} {nd:Nd} {st:St} (f:HF N ls T h n j nd st)
include f
theorem HF.may':HostP N ls T h:=
 ⟨f.tab,by rw [f.hn];omega,by rw [f.hn];exact f.nN,by rw [f.hj];omega,fun x hx=>by
  rw [f.hn,Int.toNat_natCast,f.hx] at hx
  cases hx
  rw [f.hj]
  exact_mod_cast (List.getElem?_eq_some_iff.1 f.hq).1,f.inl,f.outl,f.st0.1,f.st0.2,f.in5,f.out5,
  fun q l hq hl=>f.ris l (List.mem_of_getElem? hl),fun q l hq hl=>f.lets l (List.mem_of_getElem? hl)⟩
theorem HF.rows: ∀l∈h.inn,Up l∧l.length≤1000:=fun l hl=>by
 have h1:=f.ris l hl
 exact⟨up_pw.2 (ris_pw h1).1,by have:=ris_len h1 (by omega);omega⟩
theorem HF.gHs:gHs h:=
 ⟨by have:=f.in5;omega,by have:=f.out5;omega,fun l hl=>by have:=(f.rows l hl).2;omega,fun l hl=>by have:=(f.lets l hl).1;omega⟩
theorem HF.picks: ∀p∈st.picks,StaP nd.states.length p.1∧p.2.length≤4∧ ∀y∈p.2,(h.node,y.1)∈ls∧LetP y.2:=fun p hp=>by
 obtain⟨q,hq⟩:=List.mem_iff_getElem?.1 hp
 obtain⟨h0,h1,h2⟩:=f.may.2.2.1.2.2 q p hq
 exact⟨h0,h1,fun y hy=>by
  obtain⟨q2,hq2⟩:=List.mem_iff_getElem?.1 hy
  rw [f.hn]
  exact h2 q2 y hq2⟩
theorem HF.takes: ∀t∈st.takes,StaP nd.states.length t.2.2:=fun t ht=>by
 obtain⟨q,hq⟩:=List.mem_iff_getElem?.1 ht
 exact(f.may.2.2.2.1 q t hq).2.2.1
end
theorem lets_snoc {l:List Int} {x:Int} (h:LetsP l) (hx:LetP x):LetsP (l++ [x]):=fun j y hj hy=>by
 have:=List.mem_of_getElem? hy
 rcases List.mem_append.1 this with h1 | h1
 ·obtain⟨q,hq⟩:=List.mem_iff_getElem?.1 h1
  exact h q y (List.getElem?_eq_some_iff.1 hq).1 hq
 ·obtain rfl:=List.mem_singleton.1 h1
  have h1:=hx.1
  have h2:=hx.2
  omega
theorem pkGo_lets {ls:List (Int × Int)} {n:Int}: ∀ {sends:List (Int × Int)} {out:List (List Int)} {sent:List (Int × Int × Int)} {r:List (List Int) × List (Int × Int × Int)},
  (∀y∈sends,LetP y.2)→(∀l∈out,l.length≤500∧LetsP l)→pkGo ls n sends out sent=some r→(∀l∈r.1,l.length≤500∧LetsP l)∧r.1.length=out.length∧r.2.length=sent.length+sends.length
 | [],out,sent,r,_,ho,h=>by
   unfold pkGo at h
   cases h
   exact⟨ho,rfl,rfl⟩
 | s::sends,out,sent,r,hm,ho,h=>by
   unfold pkGo at h
   split at h
   ·cases h
   rename_i c
   have ih:=pkGo_lets (fun y hy=>hm y (by simp [hy])) (fun l hl=>?_) h
   ·obtain⟨i1,i2,i3⟩:=ih
    exact⟨i1,by rw [i2,List.length_set],by rw [i3];simp;omega⟩
   ·rcases List.mem_or_eq_of_mem_set hl with hl | rfl
    ·exact ho l hl
    ·generalize hz:out[(indexL (findL n s.1 0 ls) 0 (outs n 0 ls)).toNat]? =z at *
     cases z with
     | none=>exact⟨by simp,lets_snoc (fun j x hj=>by simp at hj) (hm s (by simp))⟩
     | some l0=>
       simp only [Option.getD_some] at c ⊢
       have:=ho l0 (List.mem_of_getElem? hz)
       exact⟨by simp;omega,lets_snoc this.2 (hm s (by simp))⟩
section
variable {N:Int} {ls:List (Int × Int)} {T:List Nd} {h:Hs} {n j:Nat} {nd:Nd} {st:St} (f:HF N ls T h n j nd st)
include f
theorem HF.pick (h2:h.steps < 2147483647) (k:Int):(∃e:Int,e≠0∧pickH ls st h k=(zHs, [],e))∨ ∃h' S,h'.steps=h.steps+1∧S.length≤4∧HostP N ls T h'∧pickH ls st h k=(h',S,0):=by
 rcases pickH_cases (ls:=ls) (st:=st) (h:=h) (k:=k) with h1 | ⟨p,out,sent,hp,hgo,e⟩
 ·exact .inl h1
 ·right
  obtain⟨p1,p2,p3⟩:=f.picks p hp
  obtain⟨l1,l2,l3⟩:=pkGo_lets (fun y hy=>(p3 y hy).2) f.lets hgo
  refine⟨_,_,rfl,by simp at l3;omega,?_,e⟩
  have hq:nd.states[p.1.toNat]? =some (nd.states[p.1.toNat]'(by have:=p1.1;have:=p1.2;omega)):=List.getElem?_eq_getElem _
  have f':HF N ls T ⟨h.node,p.1,h.steps+1,h.inn,out⟩ n p.1.toNat nd _:=
   ⟨f.tab,f.hn,by have:=p1.1;simp only;omega,f.nN,f.hx,hq,(f.tab.2.2 _ _ f.hx).2.2.2 _ _ hq,f.inl,by rw [←f.outl];exact l2,⟨by have:=f.st0.1;simp only;omega,by simp only;omega⟩,f.in5,by have:=f.out5;have e:out.length=h.out.length:=l2;simp only;omega,f.ris,l1⟩
  exact f'.may'
theorem HF.take (h2:h.steps < 2147483647) (x:Int) (m:Int × Int):takeH ls st h x m=(zH,1)∨ ∃h',h'.steps=h.steps+1∧HostP N ls T h'∧takeH ls st h x m=(h',0):=by
 unfold takeH
 split
 ·exact .inl rfl
 rename_i c
 have c1: ¬indexL x 0 (ins h.node 0 ls) < 0:=fun q=>c (.inl q)
 have c2:1≤m.1∧m.1≤500:=⟨by have: ¬m.1 < 1:=fun q=>c (.inr (.inl q));omega,by have: ¬500 < m.1:=fun q=>c (.inr (.inr (.inl q)));omega⟩
 have c3:0≤m.2∧m.2 < 4:=⟨by have: ¬m.2 < 0:=fun q=>c (.inr (.inr (.inr (.inl q))));omega,by have: ¬4≤m.2:=fun q=>c (.inr (.inr (.inr (.inr q))));omega⟩
 cases h1:h.inn[(indexL x 0 (ins h.node 0 ls)).toNat]? with
 | none=>exact .inl rfl
 | some l=>
   cases h3:ls[x.toNat]? with
   | none=>exact .inl rfl
   | some lk=>
     simp only
     have hl:=List.mem_of_getElem? h1
     split
     ·exact .inl rfl
     ·rename_i c4
      right
      have hs:=takenL_in (f:=lk.1) (a:=m.2) (d:=h.state) (m:=nd.states.length) (l:=st.takes) f.takes ⟨by rw [f.hj];omega,by rw [f.hj];exact_mod_cast (List.getElem?_eq_some_iff.1 f.hq).1⟩
      have hq:nd.states[(takenL lk.1 m.2 h.state st.takes).toNat]? =some (nd.states[(takenL lk.1 m.2 h.state st.takes).toNat]'(by have:=hs.1;have:=hs.2;omega)):=List.getElem?_eq_getElem _
      have hr:=f.ris l hl
      have hnn: ∀y∈l,y.1≠m.1:=fun y hy e=>c4 (tB_pos ((posL_has (ris_pw hr).1).2 ⟨y,hy,e⟩))
      rw [sIns_eq]
      refine⟨_,rfl,?_,rfl⟩
      have f':HF N ls T ⟨h.node,takenL lk.1 m.2 h.state st.takes,h.steps+1,h.inn.set (indexL x 0 (ins h.node 0 ls)).toNat (sIns l m),h.out⟩ n (takenL lk.1 m.2 h.state st.takes).toNat nd _:=
       ⟨f.tab,f.hn,by have:=hs.1;simp only;omega,f.nN,f.hx,hq,(f.tab.2.2 _ _ f.hx).2.2.2 _ _ hq,by rw [List.length_set];exact f.inl,f.outl,⟨by have:=f.st0.1;simp only;omega,by simp only;omega⟩,by simp only [List.length_set];exact f.in5,f.out5,
        fun l' hl'=>by
         rcases List.mem_or_eq_of_mem_set hl' with hl' | rfl
         ·exact f.ris l' hl'
         ·exact ris_ins hr hnn c2 c3,f.lets⟩
      exact f'.may'
end
end Go.Proofs.HO
/- The document's hosts: the simple functions. -/
namespace Go.Proofs.HO
open Go Go.Idl Go.Proofs Go.GP
set_option maxHeartbeats 20000000
set_option maxRecDepth 100000
theorem RIntsR_spec (l:List Int) (hl:l.length≤1000000):Pure Tryz.prog 76 [lI l,lI l] (scb true):=by
 refine pcall0 200 (fn:=Tryz.f76) Tryz.func76 rfl (by simp [Tryz.ntmps76]) zB zB fun hs=>?_
 ((try refine zW ?_);(try with_reducible exact True.intro))
 refine walk_floop 200 200 (fun i:Nat=>i≤l.length)
  (fun i=>⟨26, [(0,lI l),(1,lI l),(5,sci .i64 i)], [],0, []⟩) (fun i=>l.length - i) (0) [] ?_ ?_ ?_
 ·simp
 ·constructor<;>(try simp (disch:=omega) only [go_sem,simprocAttr,zD,zE,Int.natCast_zero,List.take_of_length_le,List.append_assoc])
 ·rintro i hi
  ((try refine zW ?_);(try with_reducible exact True.intro))
  by_cases li:i < l.length
  ·((try refine zO ?_);(try with_reducible exact True.intro))
   (refine walk_trim [0,1,5] trivial zL ?_;(refine zW ?_;try with_reducible exact True.intro);refine irun_walk (id:=6) (n:=200) [none,none,none,none,none,none,none,none,none] mixed (by kernel_rfl) ?_)
   have e:=beq_self_eq_true l[i]
   (try simp (disch:=omega) only [go_sem,simprocAttr,zD,zE,eI,e])
   refine⟨i+1, [],li,by omega,?_⟩
   constructor<;>((try refine zO ?_);(try with_reducible exact True.intro))
  ·obtain rfl:i=l.length:=by omega
   ((try refine zO ?_);(try with_reducible exact True.intro))
theorem R6SameR_spec (p:Pc) (h1:p.inn.length≤1000000) (h2:p.out.length≤1000000) (h3:p.sent.length≤1000000) (h4: ∀l∈p.out,l.length≤1000000):Pure Tryz.prog 29 [lPc p,lPc p] (scb true):=by
 obtain⟨node,state,steps,sent,inn,out⟩:=p
 simp only at h1 h2 h3 h4
 refine pcall0 200 (fn:=Tryz.f29) Tryz.func29 rfl (by simp [Tryz.ntmps29]) zB zB fun hs=>?_
 have a1:=beq_self_eq_true node
 have a2:=beq_self_eq_true state
 have a3:=beq_self_eq_true steps
 ((try refine zW ?_);(try with_reducible exact True.intro))
 ((try refine zO ?_);(try with_reducible exact True.intro))
 (refine at_call 200 ?_;(refine zW ?_;try with_reducible exact True.intro);refine callA_of (RIntsR_spec sent h3) zB ?_;((try refine zW ?_);(try with_reducible exact True.intro)))
 ((try refine zO ?_);(try with_reducible exact True.intro))
 refine walk_floop 200 200 (fun i:Nat=>i≤inn.length)
  (fun i=>⟨90, [(2, .ptr 0 0 0 0),(3, .ptr 1 0 0 0),(5,sci .i64 i)], [],2, [(1, .arr 6 0 [[sci .i64 node,sci .i64 state,sci .i64 steps,lI sent,lMs inn,lLs out]]),(0, .arr 6 0 [[sci .i64 node,sci .i64 state,sci .i64 steps,lI sent,lMs inn,lLs out]])]⟩) (fun i=>inn.length - i) (0) [] ?_ ?_ ?_
 ·simp
 ·constructor<;>(try simp (maxSteps:=2000000) (disch:=omega) only [go_sem,simprocAttr,zD,zE,Int.natCast_zero,List.take_of_length_le,List.append_assoc])
 ·rintro i hi
  ((try refine zW ?_);(try with_reducible exact True.intro))
  by_cases li:i < inn.length
  ·(try simp (maxSteps:=2000000) (disch:=omega) only [go_sem,simprocAttr,zD,zE,eMs])
   (refine walk_trim [2,3,5] trivial zL ?_;(refine zW ?_;try with_reducible exact True.intro);refine irun_walk (id:=6) (n:=200) [none,none,none,none,none,none,none,none,none,none,some [],none] mixed (by kernel_rfl) ?_)
   (try simp (maxSteps:=2000000) (disch:=omega) only [go_sem,simprocAttr,zD,zE,eMs])
   (refine at_dcall ?_;(refine zW ?_;try with_reducible exact True.intro);refine callA_of (Msgs_spec inn[i] inn[i]) zB ?_;((try refine zW ?_);(try with_reducible exact True.intro)))
   have e:=beq_self_eq_true inn[i]
   (try simp (maxSteps:=2000000) (disch:=omega) only [go_sem,simprocAttr,zD,zE,e])
   refine⟨i+1, [],li,by omega,?_⟩
   constructor<;>((try refine zO ?_);(try with_reducible exact True.intro))
  ·obtain rfl:i=inn.length:=by omega
   ((try refine zO ?_);(try with_reducible exact True.intro))
   (refine walk_trim [2,3,6] trivial zL ?_;((try refine zW ?_);(try with_reducible exact True.intro)))
   refine walk_floop 200 200 (fun j:Nat=>j≤out.length)
    (fun j=>⟨90, [(2, .ptr 0 0 0 0),(3, .ptr 1 0 0 0),(6,sci .i64 j)], [],2, [(1, .arr 6 0 [[sci .i64 node,sci .i64 state,sci .i64 steps,lI sent,lMs inn,lLs out]]),(0, .arr 6 0 [[sci .i64 node,sci .i64 state,sci .i64 steps,lI sent,lMs inn,lLs out]])]⟩) (fun j=>out.length - j) (0) [] ?_ ?_ ?_
   ·simp
   ·constructor<;>(try simp (maxSteps:=2000000) (disch:=omega) only [go_sem,simprocAttr,zD,zE,Int.natCast_zero,List.take_of_length_le,List.append_assoc])
   ·rintro j hj
    ((try refine zW ?_);(try with_reducible exact True.intro))
    by_cases lj:j < out.length
    ·(try simp (maxSteps:=2000000) (disch:=omega) only [go_sem,simprocAttr,zD,zE,eLs])
     (refine walk_trim [2,3,6] trivial zL ?_;(refine zW ?_;try with_reducible exact True.intro);refine irun_walk (id:=11) (n:=200) [none,none,none,none,none,none,none,none,none,none,some [],none] mixed (by kernel_rfl) ?_)
     (try simp (maxSteps:=2000000) (disch:=omega) only [go_sem,simprocAttr,zD,zE,eLs])
     (refine at_dcall ?_;(refine zW ?_;try with_reducible exact True.intro);refine callA_of (RIntsR_spec out[j] (h4 _ (List.getElem_mem lj))) zB ?_;((try refine zW ?_);(try with_reducible exact True.intro)))
     ((try refine zO ?_);(try with_reducible exact True.intro))
     refine⟨j+1, [],lj,by omega,?_⟩
     constructor<;>((try refine zO ?_);(try with_reducible exact True.intro))
    ·obtain rfl:j=out.length:=by omega
     ((try refine zO ?_);(try with_reducible exact True.intro))
theorem R9SameR_spec (h:Hs) (hg:gHs h):Pure Tryz.prog 17 [lHs h,lHs h] (scb true):=by
 obtain⟨node,state,steps,inn,out⟩:=h
 obtain⟨b2,b3,b4,b5⟩:=hg
 simp only at b2 b3 b4 b5
 refine pcall0 200 (fn:=Tryz.f17) Tryz.func17 rfl (by simp [Tryz.ntmps17]) zB zB fun hs=>?_
 have a1:=beq_self_eq_true node
 have a2:=beq_self_eq_true state
 have a3:=beq_self_eq_true steps
 (try simp (maxSteps:=2000000) (disch:=omega) only [go_sem,simprocAttr,zD,zE,a1,a2,a3])
 (refine at_call 200 ?_;(refine zW ?_;try with_reducible exact True.intro);refine callA_of (R6SameR_spec ⟨0,0,0, [],inn,out⟩ b2 b3 (by simp) b5) zB ?_;((try refine zW ?_);(try with_reducible exact True.intro)))
 ((try refine zO ?_);(try with_reducible exact True.intro))
end Go.Proofs.HO
