/- All hosts as one system: the law's walk. -/
import Derived.Test.YtfhhdgkhajkapaaGreatNtG
import Derived.Test.YtfhhdgkhajkapaaGreatNMg
import Derived.Test.YtfhhdgkhajkapaaGreatNWk
import Derived.Test.YtfhhdgkhajkapaaGreatNzP3
set_option linter.unusedSimpArgs false
set_option linter.unusedVariables false
namespace Go.Proofs.NO
open Go Go.Idl Go.Proofs Go.GP
set_option maxHeartbeats 20000000
set_option maxRecDepth 100000
def eSp (s:Sp):List PV:= [.sc (.int .i64 s.kind), .sc (.int .i64 s.node), .sc (.int .i64 s.k), .sc (.int .i64 s.link), .sc (.int .i64 s.seq)]
def eHs (h:Hs):List PV:= [.sc (.int .i64 h.node), .sc (.int .i64 h.state), .sc (.int .i64 h.steps), .imm 1 (pr eMs h.inn), .imm 1 (pr eLs h.out)]
abbrev lSps (l:List Sp):IV:= .p (.imm 5 (pr eSp l))
@[go_sem] theorem ir_setH {l:List Hs} {i:Nat} {h:Hs}:(ir eHs l).set i [.p (.sc (.int .i64 h.node)), .p (.sc (.int .i64 h.state)), .p (.sc (.int .i64 h.steps)), .p (.imm 1 (pr eMs h.inn)), .p (.imm 1 (pr eLs h.out))]=ir eHs (l.set i h):=qm6 (f:=eHs) (a:=h)
attribute [go_sem] qdB
theorem HostPlain_pure (s0:Sc) (l0:List Sp):Pure Tryz.prog 3 [lApp s0,lSps l0] (scb true):=by
 obtain⟨h8,hl,ho⟩:=ok_cut s0
 refine qah 200 (fn:=Tryz.f3) Tryz.func3 rfl (by simp [Tryz.ntmps3]) zB zB fun hs=>?_
 try refine zW ?_
 (refine qaf 200 ?_;refine zW ?_;refine callA_of (qlS s0) zB ?_;((try refine zW ?_);(try with_reducible exact True.intro)))
 generalize cutSc s0=s at *
 have hT:=qoy h8 ho
 obtain⟨N,ls,T,ff,room,acts⟩:=s
 simp only at h8 hl ho hT
 try refine zO ?_
 (refine qaf 200 ?_;refine zW ?_;refine callA_of (qlR ⟨N,ls,T,ff,room,acts⟩ h8 ho) zB ?_;((try refine zW ?_);(try with_reducible exact True.intro)))
 try refine zO ?_
 (refine qaf 200 ?_;refine zW ?_;refine callA_of (qeS N ls T hT) zB ?_;((try refine zW ?_);(try with_reducible exact True.intro)))
 by_cases hR:TabP N ls T
 rotate_left
 ·have e2:=qaU hR
  (try simp (maxSteps:=2000000) (disch:=omega) only [go_sem,simprocAttr,zD,zE,e2])
  (refine qaf 200 ?_;refine zW ?_;refine callA_of (qge) zB ?_;((try refine zW ?_);(try with_reducible exact True.intro)))
 have e2:=qa6 hR
 (try simp (maxSteps:=2000000) (disch:=omega) only [go_sem,simprocAttr,zD,zE,e2])
 have s0':=Sys.new hR
 have hTl:=hR.2.1
 have hN6:=hR.1.2.1
 have h30:=hR.1.2.2.1
 obtain⟨H,hH⟩: ∃H,H=(List.range T.length).map (newHs ls T):=⟨_,rfl⟩
 rw [←hH] at s0'
 have hHl:H.length=T.length:=by rw [hH,List.length_map,List.length_range]
 have hHs: ∀(i:Nat) (li:i < T.length),H.take (i+1)=H.take i++ [newHs ls T i]:=fun i li=>by
  rw [hH,List.take_succ_eq_append_getElem (by rw [List.length_map,List.length_range];exact li),List.getElem_map,List.getElem_range]
 clear hH
 (refine qaf 200 ?_;refine zW ?_;refine callA_of (qlX N ls T ff hl (by omega)) zB ?_;((try refine zW ?_);(try with_reducible exact True.intro)))
 generalize startC ls T=c0 at *
 try refine zO ?_
 refine qbk 7 5 trivial rfl (.inl rfl) ?_
 (refine walk_trim [1,2,5,6,7,8] trivial zL ?_;((try refine zW ?_);(try with_reducible exact True.intro)))
 refine qal 200 200 (fun n:Nat × Nat=>n.1≤T.length)
  (fun n=>⟨262, [(1,lSps l0),(2, .ptr 0 0 0 0),(5, .ptr 1 0 0 0),(6, .ptr 2 0 0 0),(7, .ref 3 n.2 0 n.1),(8,sci .i64 n.1)], [],4, [(3, .arr 5 n.2 (ir eHs (H.take n.1))),(2, .arr 3 0 [[lI c0.S,lMs c0.L,lI c0.E]]),(1, .arr 4 0 [[sci .i64 N,lII ls, .p (.imm 2 (pr eNd T)),scb ff]]),(0, .arr 4 0 [[sci .i64 N,lII ls, .p (.imm 2 (pr eNd T)),scb ff]])]⟩) (fun n=>T.length - n.1) (0,0) [] ?_ ?_ ?_
 ·simp
 ·constructor<;>(try simp (maxSteps:=2000000) (disch:=omega) only [go_sem,simprocAttr,zD,zE,Int.natCast_zero,List.take_of_length_le,List.append_assoc,List.take_zero])
 ·rintro⟨n,g⟩ hn
  simp only at hn
  try refine zW ?_
  by_cases ln:n < T.length
  ·have hpt:=hHs n ln
   have htt:(H.take n).length=n:=by rw [List.length_take];omega
   have hx:=List.getElem?_eq_getElem ln
   have hnew:=qm3 N ls T ff room acts n n T[n] hl (by rw [if_neg (by omega)]) hx
   have enw:newHs ls T n=⟨n,T[n].start,0,List.replicate (ins n 0 ls).length [],List.replicate (outs n 0 ls).length []⟩:=by rw [newHs,hx];rfl
   have hti:(H.take n).take n=H.take n:=by rw [List.take_take,Nat.min_self]
   have hmm:min n (min n H.length)=n:=by omega
   rw [←enw] at hnew
   generalize newHs ls T n=h at *
   try refine zO ?_
   (refine qaf 200 ?_;refine zW ?_;refine callA_of (hnew) zB ?_;((try refine zW ?_);(try with_reducible exact True.intro)))
   (try simp (maxSteps:=2000000) (disch:=omega) only [go_sem,simprocAttr,zD,zE,eHs,hmm])
   refine⟨(n+1,g+1), [],ln,by simp only;omega,?_⟩
   constructor
   case blks=>
    (try simp (maxSteps:=2000000) (disch:=omega) only [go_sem,simprocAttr,zD,zE,hmm,hpt,hti,ir_snoc,eHs])
   all_goals(try simp (maxSteps:=2000000) (disch:=omega) only [go_sem,simprocAttr,zD,zE,hmm])
  ·obtain rfl:n=T.length:=by omega
   rw [List.take_of_length_le (Nat.le_of_eq hHl)]
   try refine zO ?_
   obtain⟨m,hm1,hm2,hm3⟩: ∃m:Nat,m≤l0.length∧m≤40∧(m=l0.length∨m=40):=⟨min l0.length 40,Nat.min_le_left _ _,Nat.min_le_right _ _,by omega⟩
   obtain⟨X,x1,x2,x3⟩:=Sys.runs (x:=(c0,H)) s0' ff room acts hT l0 m hm1 hm2
   have x10:(X 0).1=c0:=by rw [x1]
   have x20:(X 0).2=H:=by rw [x1]
   rw [←x10,←x20]
   have hXl: ∀i,i≤m→(X i).2.length=T.length:=fun i hi=>by have:=(x2 i hi).len;omega
   have hX0:=hXl 0 (Nat.zero_le m)
   rw [←hX0]
   clear x1 x10 x20 hHl hHs s0'
   (refine walk_trim [1,2,5,6,7,9] trivial zL ?_;((try refine zW ?_);(try with_reducible exact True.intro)))
   refine qal 200 200 (fun i:Nat=>i≤m)
    (fun i=>⟨262, [(1,lSps l0),(2, .ptr 0 0 0 0),(5, .ptr 1 0 0 0),(6, .ptr 2 0 0 0),(7, .ref 3 g 0 (X i).2.length),(9,sci .i64 i)], [],4, [(3, .arr 5 g (ir eHs (X i).2)),(2, .arr 3 0 [[lI (X i).1.S,lMs (X i).1.L,lI (X i).1.E]]),(1, .arr 4 0 [[sci .i64 N,lII ls, .p (.imm 2 (pr eNd T)),scb ff]]),(0, .arr 4 0 [[sci .i64 N,lII ls, .p (.imm 2 (pr eNd T)),scb ff]])]⟩) (fun i=>m - i) (0) [] ?_ ?_ ?_
   ·simp
   ·constructor<;>(try simp (maxSteps:=2000000) (disch:=omega) only [go_sem,simprocAttr,zD,zE,Int.natCast_zero,List.take_of_length_le,List.append_assoc])
   ·rintro i hi
    try refine zW ?_
    by_cases li:i < m
    ·have hS:=x2 i (by omega)
     have lI:i < l0.length:=by omega
     have hXi:=hXl i (by omega)
     have hXj:=hXl (i+1) (by omega)
     have hSj:=x2 (i+1) (by omega)
     obtain⟨⟨r,e⟩,A,hy⟩:=x3 i _ li (List.getElem?_eq_getElem lI)
     have eC:=qa6 hS.conf
     have hLE:=fun k=>(hS.LE (k:=k)).1
     have hLL: ∀l∈(X i).1.L,l.length≤1000000:=fun l hl=>by
      obtain⟨k,hk⟩:=List.mem_iff_getElem?.1 hl
      have:=hLE k l hk
      omega
     have hW:=qju N ls l0[i]
     have hSt:=qkL l0[i]
     generalize hx:X i=x at *
     generalize hp:l0[i]=p at *
     obtain⟨kind,node,k,link,seq⟩:=p
     obtain⟨⟨S,L,E⟩,hs1⟩:=x
     simp only at hLE hLL eC A hy hXi
     try refine zO ?_
     (refine walk_trim [1,2,5,6,7,9] trivial zL ?_;refine zW ?_;refine irun_walk (id:=13) (n:=200) [none,none,some [0],some [],none] qan (by kernel_rfl) ?_)
     try refine zO ?_
     (refine at_dcall ?_;refine zW ?_;refine callA_of (qlT S L E) zB ?_;((try refine zW ?_);(try with_reducible exact True.intro)))
     try refine zO ?_
     (refine at_dcall ?_;refine zW ?_;refine callA_of (qjB N ls T ff S L E hT hl hLL) zB ?_;((try refine zW ?_);(try with_reducible exact True.intro)))
     (try simp (maxSteps:=2000000) (disch:=omega) only [go_sem,simprocAttr,zD,zE,eC])
     (refine walk_trim [1,2,5,6,7,9] trivial zL ?_;refine zW ?_;refine irun_walk (id:=15) (n:=200) [none,none,none,none,none,none,some [10],none,none,none,some [0,1,2,3,4,5,6,7,8,9],some [9],none] qan (by kernel_rfl) ?_)
     (try simp (maxSteps:=2000000) (disch:=omega) only [go_sem,simprocAttr,zD,zE,eSp,hp])
     (refine at_dcall ?_;refine zW ?_;refine callA_of (A) zB ?_;((try refine zW ?_);(try with_reducible exact True.intro)))
     try refine zO ?_
     rcases hy with ⟨e1,e2⟩ | ⟨e1,e2,n,h,h',e3,e4,e5,e6⟩
     ·have eb:(e != 0)=true:=bne_iff_ne.2 e1
      (try simp (maxSteps:=2000000) (disch:=omega) only [go_sem,simprocAttr,zD,zE,eb])
      refine⟨i+1, [],by first | assumption | omega,?_,?_⟩
      ·(try simp only []);omega
      ·constructor<;>(try simp (maxSteps:=2000000) (disch:=omega) only [go_sem,simprocAttr,zD,zE,e2,List.append_assoc])
     ·(try simp only at e1 e2 e3 e5)
      subst e1
      have ln2:=qab e3
      have hq:hs1[n]=h:=by rw [List.getElem?_eq_getElem ln2] at e3;exact Option.some.inj e3
      generalize hy:X (i+1)=y at *
      obtain⟨⟨S',L',E'⟩,hs2⟩:=y
      simp only at e2 e5 hSj
      subst e2 e5
      have eSl:(S'.length:Int)=N:=hSj.sl
      have eLl:L'.length=ls.length:=hSj.ll
      have e3':(hs1.set n h')[n]? =some h':=by rw [List.getElem?_set_self ln2]
      have eSq:S'[n]? =some h'.state:=(hSj.hst n h' e3').hS
      have lSn:=qab eSq
      have eSn:(h'.state != S'[n])=false:=by rw [List.getElem?_eq_getElem lSn] at eSq;rw [Option.some.inj eSq,bne_self_eq_false]
      try refine zO ?_
      (refine walk_trim [1,2,5,6,7,9,10] trivial zL ?_;refine zW ?_;refine irun_walk (id:=17) (n:=200) [none,none,some [3,4,5,6],none,none,none,none,some [],some [],none] qan (by kernel_rfl) ?_)
      (try simp (maxSteps:=2000000) (disch:=omega) only [go_sem,simprocAttr,zD,zE,eSp,hp])
      (refine at_dcall ?_;refine zW ?_;refine callA_of (qep N ls) zB ?_;((try refine zW ?_);(try with_reducible exact True.intro)))
      (try simp (maxSteps:=2000000) (disch:=omega) only [go_sem,simprocAttr,zD,zE,eSp,hp])
      (refine at_dcall ?_;refine zW ?_;refine callA_of (hSt) zB ?_;((try refine zW ?_);(try with_reducible exact True.intro)))
      try refine zO ?_
      (refine at_dcall ?_;refine zW ?_;refine callA_of (hW) zB ?_;((try refine zW ?_);(try with_reducible exact True.intro)))
      (try simp (maxSteps:=2000000) (disch:=omega) only [go_sem,simprocAttr,zD,zE,e4,eHs,hq,eSl,eLl])
      rcases e6 with ⟨k0,sent,B⟩ | ⟨k1,mm,u,kk,l,q1,q2,q3,q4,B⟩
      ·simp only at k0
       subst k0
       (try simp (maxSteps:=2000000) (disch:=omega) only [go_sem,simprocAttr,zD,zE,eSp,hp])
       (refine walk_trim [1,2,5,6,7,9,10,12,13] trivial zL ?_;refine zW ?_;refine irun_walk (id:=22) (n:=200) [none,none,none,none,none,none,none,none,none,none,some [],none,none,none,none,some [13,14],none] qan (by kernel_rfl) ?_)
       (try simp (maxSteps:=2000000) (disch:=omega) only [go_sem,simprocAttr,zD,zE,eSp,hp,eHs,hq])
       (refine at_dcall ?_;refine zW ?_;refine callA_of (B) zB ?_;((try refine zW ?_);(try with_reducible exact True.intro)))
       (try simp (maxSteps:=2000000) (disch:=omega) only [go_sem,simprocAttr,zD,zE,eHs])
       (refine walk_trim [1,2,5,6,7,9,10,12,13,14] trivial zL ?_;refine zW ?_;refine irun_walk (id:=27) (n:=200) [none,none,none,none,none,none,none,none,none,none,none,none] qan (by kernel_rfl) ?_)
       (try simp (maxSteps:=2000000) (disch:=omega) only [go_sem,simprocAttr,zD,zE,eHs,eI,eSn])
       refine⟨i+1, [],by first | assumption | omega,?_,?_⟩
       ·(try simp only []);omega
       ·constructor<;>(try simp (maxSteps:=2000000) (disch:=omega) only [go_sem,simprocAttr,zD,zE,hy,List.length_set,List.append_assoc])
      ·simp only at k1 q1 q2 q3
       subst k1 q1
       have lkk:=qab q2
       have hlk:L[kk]=l:=by rw [List.getElem?_eq_getElem lkk] at q2;exact Option.some.inj q2
       have lu:=qab q4
       have hlu:l[u]=mm:=by rw [List.getElem?_eq_getElem lu] at q4;exact Option.some.inj q4
       obtain⟨m1,m2⟩:=mm
       (try simp (maxSteps:=2000000) (disch:=omega) only [go_sem,simprocAttr,zD,zE,eSp,hp])
       (refine walk_trim [1,2,5,6,7,9,10,12,13] trivial zL ?_;refine zW ?_;refine irun_walk (id:=23) (n:=200) [none,none,none,none,none,none,none,none,none,none,none,none,none,none,some [],none] qan (by kernel_rfl) ?_)
       (try simp (maxSteps:=2000000) (disch:=omega) only [go_sem,simprocAttr,zD,zE,eSp,hp,eMs,hlk])
       (refine at_dcall ?_;refine zW ?_;refine callA_of (qjA l seq) zB ?_;((try refine zW ?_);(try with_reducible exact True.intro)))
       (try simp (maxSteps:=2000000) (disch:=omega) only [go_sem,simprocAttr,zD,zE,q3])
       (refine walk_trim [1,2,5,6,7,9,10,12,13,15] trivial zL ?_;refine zW ?_;refine irun_walk (id:=26) (n:=200) [none,none,none,none,none,none,none,none,none,none,none,none,none,none,none,none,none,none,none,none,none,none,some [],none,none,none,some [25],none] qan (by kernel_rfl) ?_)
       (try simp (maxSteps:=2000000) (disch:=omega) only [go_sem,simprocAttr,zD,zE,eSp,hp,eMs,hlk,eII,hlu,eHs,hq])
       (refine at_dcall ?_;refine zW ?_;refine callA_of (B) zB ?_;((try refine zW ?_);(try with_reducible exact True.intro)))
       (try simp (maxSteps:=2000000) (disch:=omega) only [go_sem,simprocAttr,zD,zE,eHs])
       (refine walk_trim [1,2,5,6,7,9,10,12,13,14] trivial zL ?_;refine zW ?_;refine irun_walk (id:=27) (n:=200) [none,none,none,none,none,none,none,none,none,none,none,none] qan (by kernel_rfl) ?_)
       (try simp (maxSteps:=2000000) (disch:=omega) only [go_sem,simprocAttr,zD,zE,eHs,eI,eSn])
       refine⟨i+1, [],by first | assumption | omega,?_,?_⟩
       ·(try simp only []);omega
       ·constructor<;>(try simp (maxSteps:=2000000) (disch:=omega) only [go_sem,simprocAttr,zD,zE,hy,List.length_set,List.append_assoc])
    ·obtain rfl:i=m:=by omega
     have hS:=x2 i (Nat.le_refl i)
     have hXi:=hXl i (Nat.le_refl i)
     have hgv:=fun(k:Nat) (hk:k < ls.length)=>hS.gave hk
     have hbk:=fun(k:Nat) (hk:k < ls.length)=>qnH hR.1 hk
     have hLl:=hS.ll
     have hEl:=hS.el
     generalize X i=x at *
     obtain⟨⟨S,L,E⟩,hs1⟩:=x
     simp only at hXi hLl hEl hgv
     clear x2 x3 hXl hX0 hS
     rcases Nat.lt_or_ge i l0.length with q | q
     all_goals
      try refine zO ?_
      (refine walk_trim [2,6,7,16] trivial zL ?_;((try refine zW ?_);(try with_reducible exact True.intro)))
      refine qal 200 200 (fun k:Nat=>k≤ls.length)
       (fun k=>⟨262, [(2, .ptr 0 0 0 0),(6, .ptr 2 0 0 0),(7, .ref 3 g 0 hs1.length),(16,sci .i64 k)], [],4, [(3, .arr 5 g (ir eHs hs1)),(2, .arr 3 0 [[lI S,lMs L,lI E]]),(1, .arr 4 0 [[sci .i64 N,lII ls, .p (.imm 2 (pr eNd T)),scb ff]]),(0, .arr 4 0 [[sci .i64 N,lII ls, .p (.imm 2 (pr eNd T)),scb ff]])]⟩) (fun k=>ls.length - k) (0) [] ?_ ?_ ?_
      ·simp
      ·constructor<;>(try simp (maxSteps:=2000000) (disch:=omega) only [go_sem,simprocAttr,zD,zE,Int.natCast_zero,List.take_of_length_le,List.append_assoc])
      ·rintro k hk
       try refine zW ?_
       by_cases lk:k < ls.length
       ·obtain⟨a,b,p,q,e,l,h1,h2,h3,h4,h5,h6,h7,h8',h9,h10,h11,h12⟩:=hgv k lk
        have la:=qab h2
        have lb:=qab h3
        have lE:=qab h4
        have lL:=qab h5
        have g1:ls[k]=((a:Int),(b:Int)):=by rw [List.getElem?_eq_getElem lk] at h1;exact Option.some.inj h1
        have g2:hs1[a]=p:=by rw [List.getElem?_eq_getElem la] at h2;exact Option.some.inj h2
        have g3:hs1[b]=q:=by rw [List.getElem?_eq_getElem lb] at h3;exact Option.some.inj h3
        have g4:E[k]=e:=by rw [List.getElem?_eq_getElem lE] at h4;exact Option.some.inj h4
        have g5:L[k]=l:=by rw [List.getElem?_eq_getElem lL] at h5;exact Option.some.inj h5
        have sGa:=qmE ⟨N,ls,T,ff,room,acts⟩ p k hl h6
        have sGo:=qnF ⟨N,ls,T,ff,room,acts⟩ q k hl h7
        have sBk:=qkM N ls k hl
        have bk:=hbk k lk
        simp only at sGa sGo
        rw [h8'] at sGa
        rw [h9] at sGo
        (try simp (maxSteps:=2000000) (disch:=omega) only [go_sem,simprocAttr,zD,zE,eII,g1])
        (refine walk_trim [2,6,7,16] trivial zL ?_;refine zW ?_;refine irun_walk (id:=34) (n:=200) [none,none,none,none,none,none,none,none,none,none,none,none,none,none,none,none] qan (by kernel_rfl) ?_)
        (try simp (maxSteps:=2000000) (disch:=omega) only [go_sem,simprocAttr,zD,zE,eII,g1])
        (refine walk_trim [2,6,7,16,17,18] trivial zL ?_;refine zW ?_;refine irun_walk (id:=35) (n:=200) (none::none::none::none::none::none::some [7,8,9,10,11]::none::none::none::none::none::none::none::none::none::none::none::none::none::some [21,22,23,24,25,26,29,30,31,32,33,34]::none::none::none::none::none::none::some [29,30,31,32,33,34]::none::none::none::none::none::none::none::none::none::none::none::none::some [41]::none::some []::none::none:: []) qan (by kernel_rfl) ?_)
        (try simp (maxSteps:=2000000) (disch:=omega) only [go_sem,simprocAttr,zD,zE,eHs,g2])
        (refine at_dcall ?_;refine zW ?_;refine callA_of (sGa) zB ?_;((try refine zW ?_);(try with_reducible exact True.intro)))
        (try simp (maxSteps:=2000000) (disch:=omega) only [go_sem,simprocAttr,zD,zE,eI,g4,eHs,g2])
        (refine at_dcall ?_;refine zW ?_;refine callA_of (sGa) zB ?_;((try refine zW ?_);(try with_reducible exact True.intro)))
        (try simp (maxSteps:=2000000) (disch:=omega) only [go_sem,simprocAttr,zD,zE,eHs,g3])
        (refine at_dcall ?_;refine zW ?_;refine callA_of (sGo) zB ?_;((try refine zW ?_);(try with_reducible exact True.intro)))
        (try simp (maxSteps:=2000000) (disch:=omega) only [go_sem,simprocAttr,zD,zE,eMs,g5])
        (refine at_dcall ?_;refine zW ?_;refine callA_of (qep N ls) zB ?_;((try refine zW ?_);(try with_reducible exact True.intro)))
        try refine zO ?_
        (refine at_dcall ?_;refine zW ?_;refine callA_of (sBk) zB ?_;((try refine zW ?_);(try with_reducible exact True.intro)))
        try refine zO ?_
        refine⟨k+1, [],by first | assumption | omega,?_,?_⟩
        ·(try simp only []);omega
        ·constructor<;>(try simp (maxSteps:=2000000) (disch:=omega) only [go_sem,simprocAttr,zD,zE,List.append_assoc])
       ·obtain rfl:k=ls.length:=by omega
        try refine zO ?_
        (refine qaf 200 ?_;refine zW ?_;refine callA_of (qge) zB ?_;((try refine zW ?_);(try with_reducible exact True.intro)))
        ((try refine zO ?_);(try with_reducible exact True.intro))
end Go.Proofs.NO
