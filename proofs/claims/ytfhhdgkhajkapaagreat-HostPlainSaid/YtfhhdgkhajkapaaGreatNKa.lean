/- Facts that the proofs of this claim lean on. -/
import Derived.Test.YtfhhdgkhajkapaaGreatNTypes
import Derived.Test.YtfhhdgkhajkapaaGreatIdNl
set_option linter.unusedSimpArgs false
set_option linter.unusedVariables false
/- Scripts cut and handed to the document: what each of these functions answers. -/
namespace Go.Proofs.NO
open Go Go.Idl Go.Proofs
set_option maxHeartbeats 20000000
set_option maxRecDepth 100000
structure St where
 mode:Int
 waits:List Int
 picks:List (Int × List (Int × Int))
 takes:List (Int × Int × Int)
structure Nd where
 start:Int
 states:List St
abbrev eG (N:Int) (ls:List (Int × Int)):IV:= .agg [sci .i64 N,lII ls]
def eIII (p:Int × Int × Int):List PV:= [.sc (.int .i64 p.1), .sc (.int .i64 p.2.1), .sc (.int .i64 p.2.2)]
def ePk (p:Int × List (Int × Int)):List PV:= [.sc (.int .i64 p.1), .imm 2 (pr eII p.2)]
def eSt (s:St):List PV:= [.sc (.int .i64 s.mode), .imm 1 (pr eI s.waits), .imm 2 (pr ePk s.picks), .imm 3 (pr eIII s.takes)]
def eNd (n:Nd):List PV:= [.sc (.int .i64 n.start), .imm 4 (pr eSt n.states)]
abbrev lSt (s:St):IV:= .agg [sci .i64 s.mode,lI s.waits, .p (.imm 2 (pr ePk s.picks)), .p (.imm 3 (pr eIII s.takes))]
structure Sc where
 N:Int
 ls:List (Int × Int)
 T:List Nd
 fifo:Bool
 room:Nat
 acts:List (Int × Int × Int)
abbrev lApp (s:Sc):IV:= .agg [sci .i64 s.N,lII s.ls, .p (.imm 2 (pr eNd s.T)),scb s.fifo]
def cutP (p:Int × List (Int × Int)):Int × List (Int × Int):=(p.1,p.2.take 10)
def qdM (s:St):St:=⟨s.mode,s.waits.take 10,(s.picks.take 10).map cutP,s.takes.take 30⟩
theorem mn10 (n:Nat):(if(10:Int) < (n:Int) then(10:Int) else(n:Int))=((min n 10:Nat):Int):=by split<;>omega
theorem ir_snoc {α:Type} (f:α→List PV) (l:List α) (x:α):ir f (l++ [x])=ir f l++ [(f x).map .p]:=by simp [ir]
theorem qpG {α:Type} (l:List α) (c:Nat):(List.take c l).length=min l.length c:=by
 rw [List.length_take];omega
theorem tk_min {α:Type} (l:List α) (c:Nat):List.take (min l.length c) l=List.take c l:=by
 rcases Nat.le_total l.length c with h | h
 ·rw [Nat.min_eq_left h,List.take_length,List.take_of_length_le h]
 ·rw [Nat.min_eq_right h]
theorem tk_self {α:Type} (l:List α) (c:Nat):List.take (min l.length c) (List.take c l)=List.take c l:=by
 rw [←qpG,List.take_length]
theorem tk_len {α:Type} (l:List α) (c:Nat):(List.take c l).length=min l.length c:=by
 rw [List.length_take];omega
theorem qep (N:Int) (ls:List (Int × Int)):Pure Tryz.prog 25 [eG N ls] (eG N ls):=by
 refine qah 200 (fn:=Tryz.f25) Tryz.func25 rfl (by simp [Tryz.ntmps25]) zB zB fun hs=>?_
 (repeat(first | ((refine zW ?_;try with_reducible exact True.intro))))
theorem qlN (N:Int) (ls:List (Int × Int)):Pure Tryz.prog 75 [eG N ls] (eG N (ls.take 40)):=by
 refine qah 200 (fn:=Tryz.f75) Tryz.func75 rfl (by simp [Tryz.ntmps75]) zB zB fun hs=>?_
 try refine zW ?_
 by_cases h:40 < ls.length
 ·have h':(40:Int) < ls.length:=by omega
  (try simp (disch:=omega) only [go_sem,simprocAttr,zD,zE,h'])
 ·have h': ¬(40:Int) < ls.length:=by omega
  have ht:ls.take 40=ls:=List.take_of_length_le (by omega)
  (try simp (disch:=omega) only [go_sem,simprocAttr,zD,zE,h',ht])
theorem qlQ (s:St):Pure Tryz.prog 164 [lSt s] (lSt (qdM s)):=by
 obtain⟨mode,waits,picks,takes⟩:=s
 refine qah 200 (fn:=Tryz.f164) Tryz.func164 rfl (by simp [Tryz.ntmps164]) zB zB fun hs=>?_
 try refine zW ?_
 (refine walk_trim [1,2,300] trivial zL ?_;refine zW ?_;refine irun_walk (id:=1) (n:=200) [none,none,some [0,1,3,4,5,6,7,8,9,12],none,none,none,none,none,none,none,some [0,1,12],none,some [0,1,2,3,4,5,6,7,8,9,10,11],some []] qan (by kernel_rfl) ?_)
 (try simp (maxSteps:=2000000) (disch:=omega) only [go_sem,simprocAttr,zD,zE,mn10,Nat.sub_zero,List.drop_zero,tk_min,tk_len])
 refine walk_ownB 3 0 2 2 trivial rfl rfl rfl (.inr rfl) ?_
 simp only [List.set_cons_zero,List.set_cons_succ,Nat.reduceAdd]
 (refine walk_trim [1,2,3,4,300] trivial zL ?_;((try refine zW ?_);(try with_reducible exact True.intro)))
 refine qal 200 200 (fun i:Nat × Nat × List (Int × List (Int × Int))=>i.1≤picks.length∧i.1≤10∧i.2.2=(picks.take i.1).map cutP)
  (fun i=>⟨74, [(1, .ptr 0 0 0 0),(2, .ptr 1 0 0 0),(3, .ptr 3 0 0 0),(4,sci .i64 i.1)], [],5,
   [(4, .arr 2 i.2.1 (ir ePk i.2.2)),(3, .arr 4 0 [[sci .i64 mode,lI (waits.take 10), .ref 4 i.2.1 0 i.2.2.length, .p (.sc (.slice none 0 0))]]),
    (1, .arr 4 0 [[sci .i64 0, .p (.sc (.slice none 0 0)), .p (.sc (.slice none 0 0)), .p (.sc (.slice none 0 0))]]),
    (0, .arr 4 0 [[sci .i64 mode,lI waits, .p (.imm 2 (pr ePk picks)), .p (.imm 3 (pr eIII takes))]])]⟩) (fun i=>10 - i.1) (0,0, []) [2] ?_ ?_ ?_
 ·simp
 ·constructor<;>(try simp (maxSteps:=2000000) (disch:=omega) only [go_sem,simprocAttr,zD,zE,Int.natCast_zero,tk_self])
 ·rintro⟨i,g,acc⟩ ⟨h1,h2,h3⟩
  simp only at h1 h2 h3
  have hal:acc.length=i:=by rw [h3];simp;omega
  try refine zW ?_
  by_cases hlt:i < picks.length∧i < 10
  ·obtain⟨hl,h10⟩:=hlt
   (try simp (maxSteps:=2000000) (disch:=omega) only [go_sem,simprocAttr,zD,zE,ePk])
   (refine walk_trim [1,2,3,4,5,300] trivial zL ?_;refine zW ?_;refine irun_walk (id:=6) (n:=200) [none,none,none,none,some [0,1,2,3,5,6,7,8,9,10,11],none,none,none,none,none,none,none,some [0,1,2,3],none,some [0,1],some [],none,some []] qan (by kernel_rfl) ?_)
   (try simp (maxSteps:=2000000) (disch:=omega) only [go_sem,simprocAttr,zD,zE,mn10,Nat.sub_zero,List.drop_zero,tk_min,tk_len,ePk])
   refine⟨(i+1,g+1,acc++ [cutP picks[i]]), [6],⟨hl,h10,?_⟩,?_,?_⟩
   ·simp only [h3]
    rw [List.take_succ_eq_append_getElem hl,List.map_append,List.map_cons,List.map_nil]
   ·simp only;omega
   ·constructor<;>(try simp (maxSteps:=2000000) (disch:=omega) only [go_sem,simprocAttr,zD,zE,cutP,tk_self,ePk,ir_snoc,List.map_cons,List.map_nil])
  ·have h10:picks.take i=picks.take 10:=by
    rcases Nat.lt_or_ge i 10 with h | h
    ·rw [List.take_of_length_le (by omega),List.take_of_length_le (by omega)]
    ·rw [show i=10 by omega]
   rw [h10] at h3
   rcases Nat.lt_or_ge i picks.length with hl | hl
   all_goals
    try refine zO ?_
    refine walk_ownB 3 0 3 3 trivial rfl rfl rfl (.inr rfl) ?_
    simp only [List.set_cons_zero,List.set_cons_succ,Nat.reduceAdd]
    (refine walk_trim [1,2,3,6,300] trivial zL ?_;((try refine zW ?_);(try with_reducible exact True.intro)))
    refine qal 200 200 (fun j:Nat × Nat=>j.1≤takes.length∧j.1≤30)
     (fun j=>⟨74, [(1, .ptr 0 0 0 0),(2, .ptr 1 0 0 0),(3, .ptr 3 0 0 0),(6,sci .i64 j.1)], [],6,
      [(5, .arr 3 j.2 (ir eIII (takes.take j.1))),(3, .arr 4 0 [[sci .i64 mode,lI (waits.take 10), .p (.imm 2 (pr ePk acc)), .ref 5 j.2 0 j.1]]),
       (1, .arr 4 0 [[sci .i64 0, .p (.sc (.slice none 0 0)), .p (.sc (.slice none 0 0)), .p (.sc (.slice none 0 0))]]),
       (0, .arr 4 0 [[sci .i64 mode,lI waits, .p (.imm 2 (pr ePk picks)), .p (.imm 3 (pr eIII takes))]])]⟩) (fun j=>30 - j.1) (0,0) [4] ?_ ?_ ?_
    ·simp
    ·constructor<;>(try simp (maxSteps:=2000000) (disch:=omega) only [go_sem,simprocAttr,zD,zE,Int.natCast_zero,List.take_zero])
    ·clear hl hlt hal h1 h2 h10
     rintro⟨j,g2⟩ ⟨k1,k2⟩
     simp only at k1 k2
     have hjl:(takes.take j).length=j:=by simp;omega
     have hjj:(takes.take j).take j=takes.take j:=List.take_of_length_le (by omega)
     try refine zW ?_
     by_cases hlt:j < takes.length∧j < 30
     ·obtain⟨hl,h30⟩:=hlt
      (try simp (maxSteps:=2000000) (disch:=omega) only [go_sem,simprocAttr,zD,zE,eIII])
      (refine walk_trim [1,2,3,6,300] trivial zL ?_;refine zW ?_;refine irun_walk (id:=10) (n:=200) [none,none,none,none,none,none,none,some [0,1],some [],none,some []] qan (by kernel_rfl) ?_)
      (try simp (maxSteps:=2000000) (disch:=omega) only [go_sem,simprocAttr,zD,zE,eIII,hjl])
      refine⟨(j+1,g2+1), [],⟨hl,h30⟩,?_,?_⟩
      ·simp only;omega
      ·constructor<;>(try simp (maxSteps:=2000000) (disch:=omega) only [go_sem,simprocAttr,zD,zE,eIII,hjj,List.take_succ_eq_append_getElem hl,ir_snoc,List.map_cons,List.map_nil])
     ·have h30:takes.take j=takes.take 30:=by
       rcases Nat.lt_or_ge j 30 with h | h
       ·rw [List.take_of_length_le (by omega),List.take_of_length_le (by omega)]
       ·rw [show j=30 by omega]
      rw [h30] at hjj
      rcases Nat.lt_or_ge j takes.length with hl | hl
      all_goals
       (try simp (maxSteps:=2000000) (disch:=omega) only [go_sem,simprocAttr,zD,zE,h30,h3,qdM,hjj])
def qex (n:Nd):Nd:=⟨n.start,(n.states.take 10).map qdM⟩
theorem qlO (T:List Nd):Pure Tryz.prog 76 [.p (.imm 2 (pr eNd T))] (.p (.imm 2 (pr eNd ((T.take 8).map qex)))):=by
 refine qah 200 (fn:=Tryz.f76) Tryz.func76 rfl (by simp [Tryz.ntmps76]) zB zB fun hs=>?_
 try refine zW ?_
 refine qbk 3 2 trivial rfl (.inl rfl) ?_
 (refine walk_trim [0,3,4] trivial zL ?_;((try refine zW ?_);(try with_reducible exact True.intro)))
 refine qal 200 200 (fun i:Nat × Nat × List Nd=>i.1≤T.length∧i.1≤8∧i.2.2=(T.take i.1).map qex)
  (fun i=>⟨57, [(0, .p (.imm 2 (pr eNd T))),(3, .ref 0 i.2.1 0 i.2.2.length),(4,sci .i64 i.1)], [],1, [(0, .arr 2 i.2.1 (ir eNd i.2.2))]⟩) (fun i=>8 - i.1) (0,0, []) [] ?_ ?_ ?_
 ·simp
 ·constructor<;>(try simp (maxSteps:=2000000) (disch:=omega) only [go_sem,simprocAttr,zD,zE,Int.natCast_zero])
 ·rintro⟨i,g,acc⟩ ⟨h1,h2,h3⟩
  simp only at h1 h2 h3
  have hal:acc.length=i:=by rw [h3];simp;omega
  try refine zW ?_
  by_cases hlt:i < T.length∧i < 8
  ·obtain⟨hl,h8⟩:=hlt
   (try simp (maxSteps:=2000000) (disch:=omega) only [go_sem,simprocAttr,zD,zE,eNd])
   refine walk_ownB 1 0 1 4 trivial rfl rfl rfl (.inr rfl) ?_
   simp only [List.set_cons_zero,List.set_cons_succ,Nat.reduceAdd]
   (refine walk_trim [0,3,4,5,6] trivial zL ?_;((try refine zW ?_);(try with_reducible exact True.intro)))
   generalize hss:T[i].states=ss
   generalize hst:T[i].start=st
   refine qal 200 200 (fun k:Nat × Nat × List St=>k.1≤ss.length∧k.1≤10∧k.2.2=(ss.take k.1).map qdM)
    (fun k=>⟨57, [(0, .p (.imm 2 (pr eNd T))),(3, .ref 0 g 0 acc.length),(4,sci .i64 i),(5, .ptr 1 0 0 0),(6,sci .i64 k.1)], [],3,
     [(1, .arr 2 0 [[sci .i64 st, .ref 2 k.2.1 0 k.2.2.length]]),(2, .arr 4 k.2.1 (ir eSt k.2.2)),(0, .arr 2 g (ir eNd acc))]⟩) (fun k=>10 - k.1) (0,0, []) [] ?_ ?_ ?_
   ·simp
   ·constructor<;>(try simp (maxSteps:=2000000) (disch:=omega) only [go_sem,simprocAttr,zD,zE,Int.natCast_zero])
   ·rintro⟨k,g2,al⟩ ⟨k1,k2,k3⟩
    simp only at k1 k2 k3
    have hkl:al.length=k:=by rw [k3];simp;omega
    try refine zW ?_
    by_cases hlt:k < ss.length∧k < 10
    ·obtain⟨hk,h10⟩:=hlt
     (try simp (maxSteps:=2000000) (disch:=omega) only [go_sem,simprocAttr,zD,zE,eNd,hss])
     (refine walk_trim [0,3,4,5,6] trivial zL ?_;refine zW ?_;refine irun_walk (id:=9) (n:=200) [none,none,none,none,none,none,none,none,none,none,some [0,1],some [0,1],some [],none,some []] qan (by kernel_rfl) ?_)
     (try simp (maxSteps:=2000000) (disch:=omega) only [go_sem,simprocAttr,zD,zE,eNd,eSt,hss])
     (refine at_dcall ?_;refine zW ?_;refine callA_of (qlQ ss[k]) zB ?_;((try refine zW ?_);(try with_reducible exact True.intro)))
     try refine zO ?_
     refine⟨(k+1,g2+1,al++ [qdM ss[k]]), [],⟨hk,h10,?_⟩,?_,?_⟩
     ·simp only [k3]
      rw [List.take_succ_eq_append_getElem hk,List.map_append,List.map_cons,List.map_nil]
     ·simp only;omega
     ·constructor<;>(try simp (maxSteps:=2000000) (disch:=omega) only [go_sem,simprocAttr,zD,zE,eSt,ir_snoc,List.map_cons,List.map_nil])
    ·have h10:ss.take k=ss.take 10:=by
      rcases Nat.lt_or_ge k 10 with h | h
      ·rw [List.take_of_length_le (by omega),List.take_of_length_le (by omega)]
      ·rw [show k=10 by omega]
     rw [h10] at k3
     rcases Nat.lt_or_ge k ss.length with hk | hk
     all_goals
      (try simp (maxSteps:=2000000) (disch:=omega) only [go_sem,simprocAttr,zD,zE,eNd,hss])
      refine⟨(i+1,g+1,acc++ [qex T[i]]), [2],⟨hl,h8,?_⟩,?_,?_⟩
      ·simp only [h3]
       rw [List.take_succ_eq_append_getElem hl,List.map_append,List.map_cons,List.map_nil]
      ·simp only;omega
      ·constructor<;>(try simp (maxSteps:=2000000) (disch:=omega) only [go_sem,simprocAttr,zD,zE,eNd,qex,hss,hst,←k3,ir_snoc,List.map_cons,List.map_nil])
  ·have h10:T.take i=T.take 8:=by
    rcases Nat.lt_or_ge i 8 with h | h
    ·rw [List.take_of_length_le (by omega),List.take_of_length_le (by omega)]
    ·rw [show i=8 by omega]
   rw [h10] at h3
   rcases Nat.lt_or_ge i T.length with hl | hl
   all_goals
    (try simp (maxSteps:=2000000) (disch:=omega) only [go_sem,simprocAttr,zD,zE,←h3])
def OkSt (s:St):Prop:=s.waits.length≤10∧s.picks.length≤10∧(∀p∈s.picks,p.2.length≤10)∧s.takes.length≤30
def OkNd (n:Nd):Prop:=n.states.length≤10∧ ∀s∈n.states,OkSt s
theorem tkl {α:Type} {l:List α} {j:Nat} (h:j≤l.length):(l.take j).length=j:=by simp;omega
theorem tks {α:Type} {l:List α} {j:Nat} (h:j < l.length):l.take (j+1)=l.take j++ [l[j]]:=List.take_succ_eq_append_getElem h
theorem tkt {α:Type} {l:List α} {j:Nat}:(l.take j).take j=l.take j:=by rw [List.take_take,Nat.min_self]
theorem qjt (s:St) (hk:OkSt s):Pure Tryz.prog 165 [lSt s] (lSt s):=by
 obtain⟨mode,waits,picks,takes⟩:=s
 obtain⟨hk1,hk2,hk3,hk4⟩:=hk
 simp only at hk1 hk2 hk3 hk4
 refine qah 200 (fn:=Tryz.f165) Tryz.func165 rfl (by simp [Tryz.ntmps165]) zB zB fun hs=>?_
 try refine zW ?_
 refine walk_ownB 2 0 2 2 trivial rfl rfl rfl (.inr rfl) ?_
 simp only [List.set_cons_zero,List.set_cons_succ,Nat.reduceAdd]
 (refine walk_trim [1,2,3,4,187] trivial zL ?_;((try refine zW ?_);(try with_reducible exact True.intro)))
 refine qal 200 200 (fun i:Nat × Nat=>i.1≤picks.length)
  (fun i=>⟨102, [(1, .ptr 0 0 0 0),(2, .ptr 1 0 0 0),(3, .ptr 2 0 0 0),(4,sci .i64 i.1)], [],4, [(3, .arr 2 i.2 (ir ePk (picks.take i.1))),(2, .arr 4 0 [[sci .i64 mode,lI waits, .ref 3 i.2 0 i.1, .p (.sc (.slice none 0 0))]]),(1, .arr 4 0 [[sci .i64 0, .p (.sc (.slice none 0 0)), .p (.sc (.slice none 0 0)), .p (.sc (.slice none 0 0))]]),(0, .arr 4 0 [[sci .i64 mode,lI waits, .p (.imm 2 (pr ePk picks)), .p (.imm 3 (pr eIII takes))]])]⟩) (fun i=>picks.length - i.1) (0,0) [] ?_ ?_ ?_
 ·simp
 ·constructor<;>(try simp (maxSteps:=2000000) (disch:=omega) only [go_sem,simprocAttr,zD,zE,Int.natCast_zero,List.take_of_length_le,List.append_assoc,List.take_zero])
 ·rintro⟨i,g⟩ hi
  simp only at hi
  try refine zW ?_
  by_cases li:i < picks.length
  ·have hpl:=hk3 picks[i] (List.getElem_mem li)
   have hpt:picks.take (i+1)=picks.take i++ [picks[i]]:=tks li
   have htt:(picks.take i).length=i:=tkl hi
   have hti:(picks.take i).take i=picks.take i:=tkt
   generalize hp:picks[i]=p at *
   obtain⟨nx,sends⟩:=p
   simp only at hpl
   (try simp (maxSteps:=2000000) (disch:=omega) only [go_sem,simprocAttr,zD,zE,ePk,hp])
   refine walk_ownB 4 0 1 2 trivial rfl rfl rfl (.inr rfl) ?_
   simp only [List.set_cons_zero,List.set_cons_succ,Nat.reduceAdd]
   (refine walk_trim [1,2,3,4,5,6,187] trivial zL ?_;((try refine zW ?_);(try with_reducible exact True.intro)))
   refine qal 200 200 (fun k:Nat × Nat=>k.1≤sends.length)
    (fun k=>⟨102, [(1, .ptr 0 0 0 0),(2, .ptr 1 0 0 0),(3, .ptr 2 0 0 0),(4,sci .i64 i),(5, .ptr 4 0 0 0),(6,sci .i64 k.1)], [],6, [(5, .arr 2 k.2 (ir eII (sends.take k.1))),(4, .arr 2 0 [[sci .i64 nx, .ref 5 k.2 0 k.1]]),(3, .arr 2 g (ir ePk (picks.take i))),(2, .arr 4 0 [[sci .i64 mode,lI waits, .ref 3 g 0 i, .p (.sc (.slice none 0 0))]]),(1, .arr 4 0 [[sci .i64 0, .p (.sc (.slice none 0 0)), .p (.sc (.slice none 0 0)), .p (.sc (.slice none 0 0))]]),(0, .arr 4 0 [[sci .i64 mode,lI waits, .p (.imm 2 (pr ePk picks)), .p (.imm 3 (pr eIII takes))]])]⟩) (fun k=>sends.length - k.1) (0,0) [] ?_ ?_ ?_
   ·simp
   ·constructor<;>(try simp (maxSteps:=2000000) (disch:=omega) only [go_sem,simprocAttr,zD,zE,Int.natCast_zero,List.take_of_length_le,List.append_assoc,List.take_zero])
   ·rintro⟨k,e⟩ hk
    simp only at hk
    try refine zW ?_
    by_cases lk:k < sends.length
    ·have hpt2:sends.take (k+1)=sends.take k++ [sends[k]]:=tks lk
     have htt2:(sends.take k).length=k:=tkl hk
     have hti2:(sends.take k).take k=sends.take k:=tkt
     (try simp (maxSteps:=2000000) (disch:=omega) only [go_sem,simprocAttr,zD,zE,ePk,hp])
     (refine walk_trim [1,2,3,4,5,6,187] trivial zL ?_;refine zW ?_;refine irun_walk (id:=9) (n:=200) [none,none,none,none,none,none,none,none,none,none,none,none,none,none,none,none,none,none,none,none,none,none,none,some [0,1],some [],none,some []] qan (by kernel_rfl) ?_)
     (try simp (maxSteps:=2000000) (disch:=omega) only [go_sem,simprocAttr,zD,zE,ePk,hp,eII,htt2])
     refine⟨(k+1,e+1), [],by first | assumption | omega,?_,?_⟩
     ·(try simp only []);omega
     ·constructor<;>(try simp (maxSteps:=2000000) (disch:=omega) only [go_sem,simprocAttr,zD,zE,hpt2,hti2,eII,ir_snoc,List.map_cons,List.map_nil,List.append_assoc])
    ·obtain rfl:k=sends.length:=by omega
     (try simp (maxSteps:=2000000) (disch:=omega) only [go_sem,simprocAttr,zD,zE,ePk,hp,htt])
     refine⟨(i+1,g+1), [5],by first | assumption | omega,?_,?_⟩
     ·(try simp only []);omega
     ·constructor<;>(try simp (maxSteps:=2000000) (disch:=omega) only [go_sem,simprocAttr,zD,zE,hpt,hti,ePk,ir_snoc,List.map_cons,List.map_nil,List.append_assoc])
  ·obtain rfl:i=picks.length:=by omega
   (try simp (maxSteps:=2000000) (disch:=omega) only [go_sem,simprocAttr,zD,zE,List.take_length])
   refine walk_ownB 2 0 3 3 trivial rfl rfl rfl (.inr rfl) ?_
   simp only [List.set_cons_zero,List.set_cons_succ,Nat.reduceAdd]
   (refine walk_trim [1,2,3,7,187] trivial zL ?_;((try refine zW ?_);(try with_reducible exact True.intro)))
   refine qal 200 200 (fun j:Nat × Nat=>j.1≤takes.length)
    (fun j=>⟨102, [(1, .ptr 0 0 0 0),(2, .ptr 1 0 0 0),(3, .ptr 2 0 0 0),(7,sci .i64 j.1)], [],5, [(4, .arr 3 j.2 (ir eIII (takes.take j.1))),(2, .arr 4 0 [[sci .i64 mode,lI waits, .p (.imm 2 (pr ePk picks)), .ref 4 j.2 0 j.1]]),(1, .arr 4 0 [[sci .i64 0, .p (.sc (.slice none 0 0)), .p (.sc (.slice none 0 0)), .p (.sc (.slice none 0 0))]]),(0, .arr 4 0 [[sci .i64 mode,lI waits, .p (.imm 2 (pr ePk picks)), .p (.imm 3 (pr eIII takes))]])]⟩) (fun j=>takes.length - j.1) (0,0) [3] ?_ ?_ ?_
   ·simp
   ·constructor<;>(try simp (maxSteps:=2000000) (disch:=omega) only [go_sem,simprocAttr,zD,zE,Int.natCast_zero,List.take_of_length_le,List.append_assoc,List.take_zero,List.take_length])
   ·rintro⟨j,e⟩ hj
    simp only at hj
    try refine zW ?_
    by_cases lj:j < takes.length
    ·have hpt2:takes.take (j+1)=takes.take j++ [takes[j]]:=tks lj
     have htt2:(takes.take j).length=j:=tkl hj
     have hti2:(takes.take j).take j=takes.take j:=tkt
     (try simp (maxSteps:=2000000) (disch:=omega) only [go_sem,simprocAttr,zD,zE,eIII])
     (refine walk_trim [1,2,3,7,187] trivial zL ?_;refine zW ?_;refine irun_walk (id:=14) (n:=200) [none,none,none,none,none,none,none,none,none,none,none,none,none,none,none,none,none,none,none,none,none,some [0,1],some [],none,some []] qan (by kernel_rfl) ?_)
     (try simp (maxSteps:=2000000) (disch:=omega) only [go_sem,simprocAttr,zD,zE,eIII,htt2])
     refine⟨(j+1,e+1), [],by first | assumption | omega,?_,?_⟩
     ·(try simp only []);omega
     ·constructor<;>(try simp (maxSteps:=2000000) (disch:=omega) only [go_sem,simprocAttr,zD,zE,hpt2,hti2,eIII,ir_snoc,List.map_cons,List.map_nil,List.append_assoc])
    ·obtain rfl:j=takes.length:=by omega
     (try simp (maxSteps:=2000000) (disch:=omega) only [go_sem,simprocAttr,zD,zE,List.take_length])
theorem qlP (T:List Nd) (hT:T.length≤8) (hk: ∀n∈T,OkNd n):Pure Tryz.prog 77 [.p (.imm 2 (pr eNd T))] (.p (.imm 2 (pr eNd T))):=by
 refine qah 200 (fn:=Tryz.f77) Tryz.func77 rfl (by simp [Tryz.ntmps77]) zB zB fun hs=>?_
 try refine zW ?_
 refine qbk 3 2 trivial rfl (.inl rfl) ?_
 (refine walk_trim [0,3,4] trivial zL ?_;((try refine zW ?_);(try with_reducible exact True.intro)))
 refine qal 200 200 (fun i:Nat × Nat=>i.1≤T.length)
  (fun i=>⟨49, [(0, .p (.imm 2 (pr eNd T))),(3, .ref 0 i.2 0 i.1),(4,sci .i64 i.1)], [],1, [(0, .arr 2 i.2 (ir eNd (T.take i.1)))]⟩) (fun i=>T.length - i.1) (0,0) [] ?_ ?_ ?_
 ·simp
 ·constructor<;>(try simp (maxSteps:=2000000) (disch:=omega) only [go_sem,simprocAttr,zD,zE,Int.natCast_zero,List.take_of_length_le,List.append_assoc,List.take_zero])
 ·rintro⟨i,g⟩ hi
  simp only at hi
  try refine zW ?_
  by_cases li:i < T.length
  ·have hnd:=hk T[i] (List.getElem_mem li)
   have hpt:T.take (i+1)=T.take i++ [T[i]]:=tks li
   have htt:(T.take i).length=i:=tkl hi
   have hti:(T.take i).take i=T.take i:=tkt
   generalize hp:T[i]=p at *
   obtain⟨st,ss⟩:=p
   obtain⟨hs1,hs2⟩:=hnd
   simp only at hs1 hs2
   (try simp (maxSteps:=2000000) (disch:=omega) only [go_sem,simprocAttr,zD,zE,eNd,hp])
   refine walk_ownB 1 0 1 4 trivial rfl rfl rfl (.inr rfl) ?_
   simp only [List.set_cons_zero,List.set_cons_succ,Nat.reduceAdd]
   (refine walk_trim [0,3,4,5,6] trivial zL ?_;((try refine zW ?_);(try with_reducible exact True.intro)))
   refine qal 200 200 (fun k:Nat × Nat=>k.1≤ss.length)
    (fun k=>⟨49, [(0, .p (.imm 2 (pr eNd T))),(3, .ref 0 g 0 i),(4,sci .i64 i),(5, .ptr 1 0 0 0),(6,sci .i64 k.1)], [],3, [(2, .arr 4 k.2 (ir eSt (ss.take k.1))),(1, .arr 2 0 [[sci .i64 st, .ref 2 k.2 0 k.1]]),(0, .arr 2 g (ir eNd (T.take i)))]⟩) (fun k=>ss.length - k.1) (0,0) [] ?_ ?_ ?_
   ·simp
   ·constructor<;>(try simp (maxSteps:=2000000) (disch:=omega) only [go_sem,simprocAttr,zD,zE,Int.natCast_zero,List.take_of_length_le,List.append_assoc,List.take_zero])
   ·rintro⟨k,e⟩ hk
    simp only at hk
    try refine zW ?_
    by_cases lk:k < ss.length
    ·have hst:=hs2 ss[k] (List.getElem_mem lk)
     have hpt2:ss.take (k+1)=ss.take k++ [ss[k]]:=tks lk
     have htt2:(ss.take k).length=k:=tkl hk
     have hti2:(ss.take k).take k=ss.take k:=tkt
     (try simp (maxSteps:=2000000) (disch:=omega) only [go_sem,simprocAttr,zD,zE,eNd,hp])
     (refine walk_trim [0,3,4,5,6] trivial zL ?_;refine zW ?_;refine irun_walk (id:=9) (n:=200) [none,none,none,none,none,none,none,none,none,none,some [0,1],some [0,1],some [],none,some []] qan (by kernel_rfl) ?_)
     (try simp (maxSteps:=2000000) (disch:=omega) only [go_sem,simprocAttr,zD,zE,eNd,hp,eSt,htt2])
     (refine at_dcall ?_;refine zW ?_;refine callA_of (qjt ss[k] hst) zB ?_;((try refine zW ?_);(try with_reducible exact True.intro)))
     (try simp (maxSteps:=2000000) (disch:=omega) only [go_sem,simprocAttr,zD,zE,htt2])
     refine⟨(k+1,e+1), [],by first | assumption | omega,?_,?_⟩
     ·(try simp only []);omega
     ·constructor<;>(try simp (maxSteps:=2000000) (disch:=omega) only [go_sem,simprocAttr,zD,zE,hpt2,hti2,Nat.min_eq_left,eSt,ir_snoc,List.map_cons,List.map_nil,List.append_assoc])
    ·obtain rfl:k=ss.length:=by omega
     (try simp (maxSteps:=2000000) (disch:=omega) only [go_sem,simprocAttr,zD,zE,eNd,hp,htt])
     refine⟨(i+1,g+1), [2],by first | assumption | omega,?_,?_⟩
     ·(try simp only []);omega
     ·constructor<;>(try simp (maxSteps:=2000000) (disch:=omega) only [go_sem,simprocAttr,zD,zE,hpt,hti,eNd,List.take_length,ir_snoc,List.map_cons,List.map_nil,List.append_assoc])
  ·obtain rfl:i=T.length:=by omega
   (try simp (maxSteps:=2000000) (disch:=omega) only [go_sem,simprocAttr,zD,zE,List.take_length])
def cutSc (s:Sc):Sc:=⟨s.N,s.ls.take 40,(s.T.take 8).map qex,s.fifo,s.room,s.acts.take 60⟩
theorem qlS (s:Sc):Pure Tryz.prog 15 [lApp s] (lApp (cutSc s)):=by
 refine qah 200 (fn:=Tryz.f15) Tryz.func15 rfl (by simp [Tryz.ntmps15]) zB zB fun hs=>?_
 try refine zW ?_
 (refine walk_trim [1,2,27] trivial zL ?_;refine zW ?_;refine irun_walk (id:=1) (n:=200) [none,none,some [3,4,6,7],none,none,some [6,7],none,none,none,some []] qan (by kernel_rfl) ?_)
 try refine zW ?_
 (refine at_dcall ?_;refine zW ?_;refine callA_of (qlN _ _) zB ?_;((try refine zW ?_);(try with_reducible exact True.intro)))
 try refine zW ?_
 (refine at_dcall ?_;refine zW ?_;refine callA_of (qlO _) zB ?_;((try refine zW ?_);(try with_reducible exact True.intro)))
 (try simp only [go_sem,simprocAttr,cutSc])
theorem qlR (s:Sc) (hT:s.T.length≤8) (hk: ∀n∈s.T,OkNd n):Pure Tryz.prog 16 [lApp s] (lApp s):=by
 refine qah 200 (fn:=Tryz.f16) Tryz.func16 rfl (by simp [Tryz.ntmps16]) zB zB fun hs=>?_
 try refine zW ?_
 (refine walk_trim [1,2,33] trivial zL ?_;refine zW ?_;refine irun_walk (id:=1) (n:=200) [none,none,some [3,4,6,7],none,none,some [6,7],none,none,none,some []] qan (by kernel_rfl) ?_)
 try refine zW ?_
 (refine at_dcall ?_;refine zW ?_;refine callA_of (qep _ _) zB ?_;((try refine zW ?_);(try with_reducible exact True.intro)))
 try refine zW ?_
 (refine at_dcall ?_;refine zW ?_;refine callA_of (qlP _ hT hk) zB ?_;((try refine zW ?_);(try with_reducible exact True.intro)))
 ((try refine zW ?_);(try with_reducible exact True.intro))
end Go.Proofs.NO
