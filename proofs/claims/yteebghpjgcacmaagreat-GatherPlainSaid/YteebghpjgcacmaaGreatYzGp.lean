/- What is built of all hosts is the configuration: the law's walk. -/
import Derived.Test.YteebghpjgcacmaaGreatYzRn
import Derived.Test.YteebghpjgcacmaaGreatYMg
import Derived.Test.YteebghpjgcacmaaGreatYPM
import Derived.Test.YteebghpjgcacmaaGreatYWk
set_option linter.unusedSimpArgs false
set_option linter.unusedVariables false
namespace Go.Proofs.GY
open Go Go.Idl Go.Proofs Go.GP
set_option maxHeartbeats 20000000
set_option maxRecDepth 100000
def eSp (s:Sp):List PV:= [.sc (.int .i64 s.kind), .sc (.int .i64 s.node), .sc (.int .i64 s.k), .sc (.int .i64 s.link), .sc (.int .i64 s.seq)]
def eHs (h:Hs):List PV:= [.sc (.int .i64 h.node), .sc (.int .i64 h.state), .sc (.int .i64 h.steps), .imm 1 (pr eMs h.inn), .imm 1 (pr eLs h.out)]
abbrev lSps (l:List Sp):IV:= .p (.imm 5 (pr eSp l))
@[go_sem] theorem ir_setH {l:List Hs} {i:Nat} {h:Hs}:(ir eHs l).set i [.p (.sc (.int .i64 h.node)), .p (.sc (.int .i64 h.state)), .p (.sc (.int .i64 h.steps)), .p (.imm 1 (pr eMs h.inn)), .p (.imm 1 (pr eLs h.out))]=ir eHs (l.set i h):=qn9 (f:=eHs) (a:=h)
attribute [go_sem] qcw
theorem Plain_pure (s0:Sc) (l0:List Sp):Pure Tryz.prog 6 [lApp s0,lSps l0] (scb true):=by
 obtain⟨h8,hl,ho⟩:=ok_cut s0
 refine qaf 200 (fn:=Tryz.f6) Tryz.func6 rfl (by simp [Tryz.ntmps6]) zB zB fun hs=>?_
 try refine zW ?_
 (refine qac 200 ?_;refine zW ?_;refine callA_of (qmO s0) zB ?_;((try refine zW ?_);(try with_reducible exact True.intro)))
 generalize cutSc s0=s at *
 have hT:=qpK h8 ho
 obtain⟨N,ls,T,ff,room,acts⟩:=s
 simp only at h8 hl ho hT
 try refine zO ?_
 (refine qac 200 ?_;refine zW ?_;refine callA_of (qmN ⟨N,ls,T,ff,room,acts⟩ h8 ho) zB ?_;((try refine zW ?_);(try with_reducible exact True.intro)))
 try refine zO ?_
 (refine qac 200 ?_;refine zW ?_;refine callA_of (qfL N ls T hT) zB ?_;((try refine zW ?_);(try with_reducible exact True.intro)))
 by_cases hR:TabP N ls T
 rotate_left
 ·have e2:=qah hR
  (try simp (maxSteps:=2000000) (disch:=omega) only [go_sem,simprocAttr,zD,zE,e2])
  (refine qac 200 ?_;refine zW ?_;refine callA_of (qhL) zB ?_;((try refine zW ?_);(try with_reducible exact True.intro)))
 have e2:=qam hR
 (try simp (maxSteps:=2000000) (disch:=omega) only [go_sem,simprocAttr,zD,zE,e2])
 have s0':=Sys.new hR
 have hTl:=hR.2.1
 have hN6:=hR.1.2.1
 have h30:=hR.1.2.2.1
 obtain⟨H,hH⟩: ∃H,H=(List.range T.length).map (newHs ls T):=⟨_,rfl⟩
 rw [←hH] at s0'
 have hHl:H.length=T.length:=by rw [hH,List.length_map,List.length_range]
 have hHs: ∀(i:Nat) (li:i < T.length),H.take (i+1)=H.take i++ [newHs ls T i]:=fun i li=>by
  rw [hH,List.take_succ_eq_append_getElem (by rw [List.length_map,List.length_range];exact li),List.getElem_map,List.getElem_range]
 clear hH
 (refine qac 200 ?_;refine zW ?_;refine callA_of (qmS N ls T ff hl (by omega)) zB ?_;((try refine zW ?_);(try with_reducible exact True.intro)))
 generalize startC ls T=c0 at *
 try refine zO ?_
 refine walk_own 7 5 trivial rfl (.inl rfl) ?_
 (refine walk_trim [1,2,5,6,7,8] trivial zL ?_;((try refine zW ?_);(try with_reducible exact True.intro)))
 refine qad 200 200 (fun n:Nat × Nat=>n.1≤T.length)
  (fun n=>⟨232, [(1,lSps l0),(2, .ptr 0 0 0 0),(5, .ptr 1 0 0 0),(6, .ptr 2 0 0 0),(7, .ref 3 n.2 0 n.1),(8,sci .i64 n.1)], [],4, [(3, .arr 5 n.2 (ir eHs (H.take n.1))),(2, .arr 3 0 [[lI c0.S,lMs c0.L,lI c0.E]]),(1, .arr 4 0 [[sci .i64 N,lII ls, .p (.imm 2 (pr eNd T)),scb ff]]),(0, .arr 4 0 [[sci .i64 N,lII ls, .p (.imm 2 (pr eNd T)),scb ff]])]⟩) (fun n=>T.length - n.1) (0,0) [] ?_ ?_ ?_
 ·simp
 ·constructor<;>(try simp (maxSteps:=2000000) (disch:=omega) only [go_sem,simprocAttr,zD,zE,Int.natCast_zero,List.take_of_length_le,List.append_assoc,List.take_zero])
 ·rintro⟨n,g⟩ hn
  simp only at hn
  try refine zW ?_
  by_cases ln:n < T.length
  ·have hpt:=hHs n ln
   have htt:(H.take n).length=n:=by rw [List.length_take];omega
   have hx:=List.getElem?_eq_getElem ln
   have hnew:=qn4 N ls T ff room acts n n T[n] hl (by rw [if_neg (by omega)]) hx
   have enw:newHs ls T n=⟨n,T[n].start,0,List.replicate (ins n 0 ls).length [],List.replicate (outs n 0 ls).length []⟩:=by rw [newHs,hx];rfl
   have hti:(H.take n).take n=H.take n:=by rw [List.take_take,Nat.min_self]
   have hmm:min n (min n H.length)=n:=by omega
   rw [←enw] at hnew
   generalize newHs ls T n=h at *
   try refine zO ?_
   (refine qac 200 ?_;refine zW ?_;refine callA_of (hnew) zB ?_;((try refine zW ?_);(try with_reducible exact True.intro)))
   (try simp (maxSteps:=2000000) (disch:=omega) only [go_sem,simprocAttr,zD,zE,eHs,hmm])
   refine⟨(n+1,g+1), [],ln,by simp only;omega,?_⟩
   constructor
   case blks=>
    (try simp (maxSteps:=2000000) (disch:=omega) only [go_sem,simprocAttr,zD,zE,hmm,hpt,hti,ir_snoc,eHs])
   all_goals(try simp (maxSteps:=2000000) (disch:=omega) only [go_sem,simprocAttr,zD,zE,hmm])
  ·obtain rfl:n=T.length:=by omega
   rw [List.take_of_length_le (Nat.le_of_eq hHl)]
   try refine zO ?_
   obtain⟨m,hm1,hm2,hm3⟩: ∃m:Nat,m≤l0.length∧m≤40∧(m=l0.length∨m=40):=⟨min l0.length 40,Nat.min_le_left _ _,Nat.min_le_right _ _,by omega⟩
   obtain⟨X,x1,x2,x3⟩:=Sys.runs (x:=(c0,H)) s0' ff room acts hT l0 m hm1 hm2
   have x10:(X 0).1=c0:=by rw [x1]
   have x20:(X 0).2=H:=by rw [x1]
   rw [←x10,←x20]
   have hXl: ∀i,i≤m→(X i).2.length=T.length:=fun i hi=>by have:=(x2 i hi).len;omega
   have hX0:=hXl 0 (Nat.zero_le m)
   rw [←hX0]
   clear x1 x10 x20 hHl hHs s0'
   (refine walk_trim [1,2,5,6,7,9] trivial zL ?_;((try refine zW ?_);(try with_reducible exact True.intro)))
   refine qad 200 200 (fun i:Nat=>i≤m)
    (fun i=>⟨232, [(1,lSps l0),(2, .ptr 0 0 0 0),(5, .ptr 1 0 0 0),(6, .ptr 2 0 0 0),(7, .ref 3 g 0 (X i).2.length),(9,sci .i64 i)], [],4, [(3, .arr 5 g (ir eHs (X i).2)),(2, .arr 3 0 [[lI (X i).1.S,lMs (X i).1.L,lI (X i).1.E]]),(1, .arr 4 0 [[sci .i64 N,lII ls, .p (.imm 2 (pr eNd T)),scb ff]]),(0, .arr 4 0 [[sci .i64 N,lII ls, .p (.imm 2 (pr eNd T)),scb ff]])]⟩) (fun i=>m - i) (0) [] ?_ ?_ ?_
   ·simp
   ·constructor<;>(try simp (maxSteps:=2000000) (disch:=omega) only [go_sem,simprocAttr,zD,zE,Int.natCast_zero,List.take_of_length_le,List.append_assoc])
   ·rintro i hi
    try refine zW ?_
    by_cases li:i < m
    ·have hS:=x2 i (by omega)
     have lI:i < l0.length:=by omega
     have hXi:=hXl i (by omega)
     have hXj:=hXl (i+1) (by omega)
     obtain⟨⟨r,e⟩,A,hy⟩:=x3 i _ li (List.getElem?_eq_getElem lI)
     have eC:=qam hS.conf
     have hLE:=fun k=>(hS.LE (k:=k)).1
     have hLL: ∀l∈(X i).1.L,l.length≤1000000:=fun l hl=>by
      obtain⟨k,hk⟩:=List.mem_iff_getElem?.1 hl
      have:=hLE k l hk
      omega
     have hW:=qj5 N ls l0[i]
     have hSt:=qlw l0[i]
     generalize hx:X i=x at *
     generalize hp:l0[i]=p at *
     obtain⟨kind,node,k,link,seq⟩:=p
     obtain⟨⟨S,L,E⟩,hs1⟩:=x
     simp only at hLE hLL eC A hy hXi
     try refine zO ?_
     (refine walk_trim [1,2,5,6,7,9] trivial zL ?_;refine zW ?_;refine irun_walk (id:=13) (n:=200) [none,none,some [0],some [],none] qap (by kernel_rfl) ?_)
     try refine zO ?_
     (refine at_dcall ?_;refine zW ?_;refine callA_of (qdN S L E) zB ?_;((try refine zW ?_);(try with_reducible exact True.intro)))
     try refine zO ?_
     (refine at_dcall ?_;refine zW ?_;refine callA_of (qkb N ls T ff S L E hT hl hLL) zB ?_;((try refine zW ?_);(try with_reducible exact True.intro)))
     (try simp (maxSteps:=2000000) (disch:=omega) only [go_sem,simprocAttr,zD,zE,eC])
     (refine walk_trim [1,2,5,6,7,9] trivial zL ?_;refine zW ?_;refine irun_walk (id:=15) (n:=200) [none,none,none,none,none,none,some [10],none,none,none,some [0,1,2,3,4,5,6,7,8,9],some [9],none] qap (by kernel_rfl) ?_)
     (try simp (maxSteps:=2000000) (disch:=omega) only [go_sem,simprocAttr,zD,zE,eSp,hp])
     (refine at_dcall ?_;refine zW ?_;refine callA_of (A) zB ?_;((try refine zW ?_);(try with_reducible exact True.intro)))
     try refine zO ?_
     (refine walk_trim [1,2,5,6,7,9,10,11] trivial zL ?_;refine zW ?_;refine irun_walk (id:=16) (n:=200) [none,none,some [3,4,5,6],none,none,none,none,some [],some [],none] qap (by kernel_rfl) ?_)
     (try simp (maxSteps:=2000000) (disch:=omega) only [go_sem,simprocAttr,zD,zE,eSp,hp])
     (refine at_dcall ?_;refine zW ?_;refine callA_of (qhu N ls) zB ?_;((try refine zW ?_);(try with_reducible exact True.intro)))
     (try simp (maxSteps:=2000000) (disch:=omega) only [go_sem,simprocAttr,zD,zE,eSp,hp])
     (refine at_dcall ?_;refine zW ?_;refine callA_of (hSt) zB ?_;((try refine zW ?_);(try with_reducible exact True.intro)))
     try refine zO ?_
     (refine at_dcall ?_;refine zW ?_;refine callA_of (hW) zB ?_;((try refine zW ?_);(try with_reducible exact True.intro)))
     try refine zO ?_
     rcases hy with ⟨e1,e2⟩ | ⟨e1,e2,n,h,h',e3,e4,e5,e6⟩
     ·have eb:(e != 0)=true:=bne_iff_ne.2 e1
      (try simp (maxSteps:=2000000) (disch:=omega) only [go_sem,simprocAttr,zD,zE,eb])
      refine⟨i+1, [],by first | assumption | omega,?_,?_⟩
      ·(try simp only []);omega
      ·constructor<;>(try simp (maxSteps:=2000000) (disch:=omega) only [go_sem,simprocAttr,zD,zE,e2,List.append_assoc])
     ·(try simp only at e1 e2 e3 e5)
      subst e1
      have ln2:=qab e3
      have hq:hs1[n]=h:=by rw [List.getElem?_eq_getElem ln2] at e3;exact Option.some.inj e3
      generalize hy:X (i+1)=y at *
      obtain⟨⟨S',L',E'⟩,hs2⟩:=y
      simp only at e2 e5
      subst e2 e5
      (try simp (maxSteps:=2000000) (disch:=omega) only [go_sem,simprocAttr,zD,zE,e4,eHs,hq])
      rcases e6 with ⟨k0,sent,B⟩ | ⟨k1,mm,u,kk,l,q1,q2,q3,q4,B⟩
      ·simp only at k0
       subst k0
       (try simp (maxSteps:=2000000) (disch:=omega) only [go_sem,simprocAttr,zD,zE,eSp,hp])
       (refine walk_trim [1,2,5,6,7,9,10,12,13] trivial zL ?_;refine zW ?_;refine irun_walk (id:=22) (n:=200) [none,none,none,none,none,none,none,some [],none,none,none,none,some [10,11],none] qap (by kernel_rfl) ?_)
       (try simp (maxSteps:=2000000) (disch:=omega) only [go_sem,simprocAttr,zD,zE,eSp,hp])
       (refine at_dcall ?_;refine zW ?_;refine callA_of (B) zB ?_;((try refine zW ?_);(try with_reducible exact True.intro)))
       (try simp (maxSteps:=2000000) (disch:=omega) only [go_sem,simprocAttr,zD,zE,eHs])
       refine⟨i+1, [],by first | assumption | omega,?_,?_⟩
       ·(try simp only []);omega
       ·constructor<;>(try simp (maxSteps:=2000000) (disch:=omega) only [go_sem,simprocAttr,zD,zE,hy,List.length_set,List.append_assoc])
      ·simp only at k1 q1 q2 q3
       subst k1 q1
       have lkk:=qab q2
       have hlk:L[kk]=l:=by rw [List.getElem?_eq_getElem lkk] at q2;exact Option.some.inj q2
       have lu:=qab q4
       have hlu:l[u]=mm:=by rw [List.getElem?_eq_getElem lu] at q4;exact Option.some.inj q4
       obtain⟨m1,m2⟩:=mm
       (try simp (maxSteps:=2000000) (disch:=omega) only [go_sem,simprocAttr,zD,zE,eSp,hp])
       (refine walk_trim [1,2,5,6,7,9,10,12,13] trivial zL ?_;refine zW ?_;refine irun_walk (id:=23) (n:=200) [none,none,none,none,none,none,none,none,none,none,none,none,none,none,some [],none] qap (by kernel_rfl) ?_)
       (try simp (maxSteps:=2000000) (disch:=omega) only [go_sem,simprocAttr,zD,zE,eSp,hp,eMs,hlk])
       (refine at_dcall ?_;refine zW ?_;refine callA_of (qka l seq) zB ?_;((try refine zW ?_);(try with_reducible exact True.intro)))
       (try simp (maxSteps:=2000000) (disch:=omega) only [go_sem,simprocAttr,zD,zE,q3])
       (refine walk_trim [1,2,5,6,7,9,10,12,13,15] trivial zL ?_;refine zW ?_;refine irun_walk (id:=26) (n:=200) [none,none,none,none,none,none,none,none,none,none,none,none,none,none,none,none,none,none,none,some [],none,none,none,some [22],none] qap (by kernel_rfl) ?_)
       (try simp (maxSteps:=2000000) (disch:=omega) only [go_sem,simprocAttr,zD,zE,eSp,hp,eMs,hlk,eII,hlu])
       (refine at_dcall ?_;refine zW ?_;refine callA_of (B) zB ?_;((try refine zW ?_);(try with_reducible exact True.intro)))
       (try simp (maxSteps:=2000000) (disch:=omega) only [go_sem,simprocAttr,zD,zE,eHs])
       refine⟨i+1, [],by first | assumption | omega,?_,?_⟩
       ·(try simp only []);omega
       ·constructor<;>(try simp (maxSteps:=2000000) (disch:=omega) only [go_sem,simprocAttr,zD,zE,hy,List.length_set,List.append_assoc])
    ·obtain rfl:i=m:=by omega
     have hS:=x2 i (Nat.le_refl i)
     have hXi:=hXl i (Nat.le_refl i)
     have cB:=hS.build (by omega)
     have cF:=hS.bare (by omega)
     have hg:=fun(n:Nat) (h:Hs) hn=>(hS.gH (n:=n) (h:=h) hn).1
     have gL: ∀p∈(X i).2.map pcL,gPc p:=fun p hp=>by
      obtain⟨h,hh,rfl⟩:=List.mem_map.1 hp
      obtain⟨n,hn⟩:=List.mem_iff_getElem?.1 hh
      obtain⟨g1,g2,g3,g4⟩:=hg n h hn
      exact⟨by simp only [pcL,List.length_map];exact g2,g1,g2,g3,g4⟩
     have gF: ∀p∈(X i).2.map pcF,gPc p:=fun p hp=>by
      obtain⟨h,hh,rfl⟩:=List.mem_map.1 hp
      obtain⟨n,hn⟩:=List.mem_iff_getElem?.1 hh
      obtain⟨g1,g2,g3,g4⟩:=hg n h hn
      exact⟨by simp only [pcF,List.length_map];exact g2,by simp only [pcF,List.length_replicate];exact g1,by simp [pcF],fun x hx=>by simp only [pcF] at hx;rw [(List.mem_replicate.1 hx).2];simp,fun x hx=>by simp [pcF] at hx⟩
     have hLl:=hS.ll
     generalize X i=x at *
     obtain⟨⟨S,L,E⟩,hs1⟩:=x
     simp only at cB cF hg gL gF hXi hLl
     obtain⟨A,hA⟩: ∃A,A=hs1.map pcL:=⟨_,rfl⟩
     obtain⟨B,hB⟩: ∃B,B=hs1.map pcF:=⟨_,rfl⟩
     have hAl:A.length=T.length:=by rw [hA,List.length_map,hXi]
     have hBl:B.length=T.length:=by rw [hB,List.length_map,hXi]
     have hAs: ∀(n:Nat) (ln:n < hs1.length),A.take (n+1)=A.take n++ [pcL hs1[n]]:=fun n ln=>by
      rw [hA,List.take_succ_eq_append_getElem (by rw [List.length_map];exact ln),List.getElem_map]
     have hBs: ∀(n:Nat) (ln:n < hs1.length),B.take (n+1)=B.take n++ [pcF hs1[n]]:=fun n ln=>by
      rw [hB,List.take_succ_eq_append_getElem (by rw [List.length_map];exact ln),List.getElem_map]
     rw [←hLl] at cF
     have hz:=qkc S E L.length
     rw [qgj] at hz
     rw [←hA] at cB gL
     rw [←hB] at cF gF
     clear hA hB x2 x3 hXl hX0 hS
     rcases Nat.lt_or_ge i l0.length with q | q
     all_goals
      try refine zO ?_
      refine walk_own 16 6 trivial rfl (.inl rfl) ?_
      refine walk_own 17 6 trivial rfl (.inl rfl) ?_
      (refine walk_trim [2,6,7,16,17,18] trivial zL ?_;((try refine zW ?_);(try with_reducible exact True.intro)))
      refine qad 0 200 (fun n:Nat × Nat × Nat=>n.1≤T.length)
       (fun n=>⟨232, [(2, .ptr 0 0 0 0),(6, .ptr 2 0 0 0),(7, .ref 3 g 0 hs1.length),(16, .ref 4 n.2.1 0 n.1),(17, .ref 5 n.2.2 0 n.1),(18,sci .i64 n.1)], [],6, [(5, .arr 6 n.2.2 (ir ePc (B.take n.1))),(4, .arr 6 n.2.1 (ir ePc (A.take n.1))),(3, .arr 5 g (ir eHs hs1)),(2, .arr 3 0 [[lI S,lMs L,lI E]]),(1, .arr 4 0 [[sci .i64 N,lII ls, .p (.imm 2 (pr eNd T)),scb ff]]),(0, .arr 4 0 [[sci .i64 N,lII ls, .p (.imm 2 (pr eNd T)),scb ff]])]⟩) (fun n=>T.length - n.1) (0,0,0) [] ?_ ?_ ?_
      ·simp
      ·constructor<;>(try simp (maxSteps:=2000000) (disch:=omega) only [go_sem,simprocAttr,zD,zE,Int.natCast_zero,List.take_of_length_le,List.append_assoc,List.take_zero])
      ·rintro⟨n,g2,g3⟩ hn
       simp only at hn
       try refine zW ?_
       by_cases ln:n < T.length
       ·have ln2:n < hs1.length:=by omega
        have k1:=hAs n ln2
        have k2:=hBs n ln2
        have t1:(A.take n).length=n:=by rw [List.length_take];omega
        have t2:(B.take n).length=n:=by rw [List.length_take];omega
        have t3:(A.take n).take n=A.take n:=by rw [List.take_take,Nat.min_self]
        have t4:(B.take n).take n=B.take n:=by rw [List.take_take,Nat.min_self]
        have m1:min n (min n A.length)=n:=by omega
        have m2:min n (min n B.length)=n:=by omega
        have gh:=hg n hs1[n] (List.getElem?_eq_getElem ln2)
        generalize hq:hs1[n]=h at *
        (try simp (maxSteps:=2000000) (disch:=omega) only [go_sem,simprocAttr,zD,zE,eHs,hq])
        (refine qac 200 ?_;refine zW ?_;refine callA_of (qlB h gh) zB ?_;((try refine zW ?_);(try with_reducible exact True.intro)))
        (try simp (maxSteps:=2000000) (disch:=omega) only [go_sem,simprocAttr,zD,zE,eHs,hq,m1,m2])
        (refine qac 200 ?_;refine zW ?_;refine callA_of (qlA h gh) zB ?_;((try refine zW ?_);(try with_reducible exact True.intro)))
        (try simp (maxSteps:=2000000) (disch:=omega) only [go_sem,simprocAttr,zD,zE,eHs,hq,m1,m2])
        refine⟨(n+1,g2+1,g3+1), [],ln,by simp only;omega,?_⟩
        constructor
        case blks=>
         (try simp (maxSteps:=2000000) (disch:=omega) only [go_sem,simprocAttr,zD,zE,m1,m2,k1,k2,t3,t4,ir_snoc,ePc,pcL,pcF])
        all_goals(try simp (maxSteps:=2000000) (disch:=omega) only [go_sem,simprocAttr,zD,zE,m1,m2])
       ·obtain rfl:n=T.length:=by omega
        rw [List.take_of_length_le (Nat.le_of_eq hAl),List.take_of_length_le (Nat.le_of_eq hBl)]
        have b1:=qhp ⟨N,ls,T,ff,room,acts⟩ A true hl hT gL
        have b2:=qhp ⟨N,ls,T,ff,room,acts⟩ B false hl hT gF
        simp only at b1 b2
        rw [cB] at b1
        rw [cF] at b2
        have a1:=List.take_of_length_le (Nat.le_of_eq hAl)
        have a2:=List.take_of_length_le (Nat.le_of_eq hBl)
        try refine zO ?_
        rw [qd8]
        refine qbY 200 [5,4] ⟨232, [(2, .ptr 0 0 0 0),(6, .ptr 2 0 0 0),(16,lPs A),(17,lPs B)], [],6, [(2, .arr 3 0 [[lI S,lMs L,lI E]]),(1, .arr 4 0 [[sci .i64 N,lII ls, .p (.imm 2 (pr eNd T)),scb ff]]),(0, .arr 4 0 [[sci .i64 N,lII ls, .p (.imm 2 (pr eNd T)),scb ff]])]⟩ trivial ?_ ?_
        ·constructor<;>(try simp (maxSteps:=2000000) (disch:=omega) only [go_sem,simprocAttr,zD,zE,a1,a2])
        try refine zO ?_
        (refine qac 200 ?_;refine zW ?_;refine callA_of (b1) zB ?_;((try refine zW ?_);(try with_reducible exact True.intro)))
        try refine zO ?_
        (refine qac 200 ?_;refine zW ?_;refine callA_of (b2) zB ?_;((try refine zW ?_);(try with_reducible exact True.intro)))
        try refine zO ?_
        (refine walk_trim [6,19,20,21,22] trivial zL ?_;refine zW ?_;refine irun_walk (id:=39) (n:=200) [none,none,none,none,none,some [0,1,6,7,9],none,none,none,some [0,1,2,3,4,5,6,7,8],some []] qap (by kernel_rfl) ?_)
        (try simp (maxSteps:=2000000) (disch:=omega) only [go_sem,simprocAttr,zD,zE,qcw])
        (refine walk_trim [6,19,20,21,22,23] trivial zL ?_;refine zW ?_;refine irun_walk (id:=40) (n:=200) [none,none,none,none,some [5],none,some [],some [],none,none,none,none,none,none,none,some [16],none,some [],none,none,some [],none,none] qap (by kernel_rfl) ?_)
        (try simp (maxSteps:=2000000) (disch:=omega) only [go_sem,simprocAttr,zD,zE,qcw])
        (refine at_dcall ?_;refine zW ?_;refine callA_of (qdN S L E) zB ?_;((try refine zW ?_);(try with_reducible exact True.intro)))
        try refine zO ?_
        (refine at_dcall ?_;refine zW ?_;refine callA_of (qdN S L E) zB ?_;((try refine zW ?_);(try with_reducible exact True.intro)))
        try refine zO ?_
        (refine at_dcall ?_;refine zW ?_;refine callA_of (qfM S L E) zB ?_;((try refine zW ?_);(try with_reducible exact True.intro)))
        try refine zO ?_
        (refine at_dcall ?_;refine zW ?_;refine callA_of (qdN S (List.replicate L.length []) E) zB ?_;((try refine zW ?_);(try with_reducible exact True.intro)))
        try refine zO ?_
        (refine at_dcall ?_;refine zW ?_;refine qaW ?_;refine zW ?_;refine qa9 (hz) (by first | rfl | (split<;>rfl)) ?_;((try refine zW ?_);(try with_reducible exact True.intro)))
        try refine zO ?_
        (refine at_dcall ?_;refine zW ?_;refine callA_of (qhL) zB ?_;((try refine zW ?_);(try with_reducible exact True.intro)))
        ((try refine zO ?_);(try with_reducible exact True.intro))
end Go.Proofs.GY
