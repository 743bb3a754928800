/- Facts that the proofs of this claim lean on. -/
import Derived.Test.YtfhhdgkhajkapaaGreatNTypes
import Derived.Test.YtfhhdgkhajkapaaGreatIdNl
set_option linter.unusedSimpArgs false
set_option linter.unusedVariables false
/- Scripts cut and handed to the document: what each of these functions answers. -/
namespace Go.Proofs.NO
open Go Go.Idl Go.Proofs Go.Proofs.Tryz
set_option maxHeartbeats 20000000
set_option maxRecDepth 100000
structure St where
 mode:Int
 waits:List Int
 picks:List (Int × List (Int × Int))
 takes:List (Int × Int × Int)
structure Nd where
 start:Int
 states:List St
abbrev eG (N:Int) (ls:List (Int × Int)):IV:= .agg [sci .i64 N,lII ls]
def eIII (p:Int × Int × Int):List PV:= [.sc (.int .i64 p.1), .sc (.int .i64 p.2.1), .sc (.int .i64 p.2.2)]
def ePk (p:Int × List (Int × Int)):List PV:= [.sc (.int .i64 p.1), .imm 2 (pr eII p.2)]
def eSt (s:St):List PV:= [.sc (.int .i64 s.mode), .imm 1 (pr eI s.waits), .imm 2 (pr ePk s.picks), .imm 3 (pr eIII s.takes)]
def eNd (n:Nd):List PV:= [.sc (.int .i64 n.start), .imm 4 (pr eSt n.states)]
abbrev lSt (s:St):IV:= .agg [sci .i64 s.mode,lI s.waits, .p (.imm 2 (pr ePk s.picks)), .p (.imm 3 (pr eIII s.takes))]
structure Sc where
 N:Int
 ls:List (Int × Int)
 T:List Nd
 fifo:Bool
 room:Nat
 acts:List (Int × Int × Int)
abbrev lApp (s:Sc):IV:= .agg [sci .i64 s.N,lII s.ls, .p (.imm 2 (pr eNd s.T)),scb s.fifo]
def cutP (p:Int × List (Int × Int)):Int × List (Int × Int):=(p.1,p.2.take 10)
def qd7 (s:St):St:=⟨s.mode,s.waits.take 10,(s.picks.take 10).map cutP,s.takes.take 30⟩
theorem mn10 (n:Nat):(if(10:Int) < (n:Int) then(10:Int) else(n:Int))=((min n 10:Nat):Int):=by split<;>omega
theorem ir_snoc {α:Type} (f:α→List PV) (l:List α) (x:α):ir f (l++ [x])=ir f l++ [(f x).map .p]:=by simp [ir]
theorem qr9 {α:Type} (l:List α) (c:Nat):(List.take c l).length=min l.length c:=by
 rw [List.length_take];omega
theorem tk_min {α:Type} (l:List α) (c:Nat):List.take (min l.length c) l=List.take c l:=by
 rcases Nat.le_total l.length c with h | h
 ·rw [Nat.min_eq_left h,List.take_length,List.take_of_length_le h]
 ·rw [Nat.min_eq_right h]
theorem tk_self {α:Type} (l:List α) (c:Nat):List.take (min l.length c) (List.take c l)=List.take c l:=by
 rw [←qr9,List.take_length]
theorem tk_len {α:Type} (l:List α) (c:Nat):(List.take c l).length=min l.length c:=by
 rw [List.length_take];omega
theorem qeJ (N:Int) (ls:List (Int × Int)):Pure prog 25 [eG N ls] (eG N ls):=by
 refine pcall0 200 (fn:=f25) func25 rfl (by simp [ntmps25]) zB zB fun hs=>?_
 (repeat(first | ((refine zW ?_;try with_reducible exact True.intro))))
theorem qnZ (N:Int) (ls:List (Int × Int)):Pure prog 75 [eG N ls] (eG N (ls.take 40)):=by
 refine pcall0 200 (fn:=f75) func75 rfl (by simp [ntmps75]) zB zB fun hs=>?_
 try refine zW ?_
 by_cases h:40 < ls.length
 ·have h':(40:Int) < ls.length:=by omega
  (try simp (disch:=omega) only [go_sem,simprocAttr,zD,zE,h'])
 ·have h': ¬(40:Int) < ls.length:=by omega
  have ht:ls.take 40=ls:=List.take_of_length_le (by omega)
  (try simp (disch:=omega) only [go_sem,simprocAttr,zD,zE,h',ht])
theorem qn2 (s:St):Pure prog 164 [lSt s] (lSt (qd7 s)):=by
 obtain⟨mode,waits,picks,takes⟩:=s
 refine pcall0 200 (fn:=f164) func164 rfl (by simp [ntmps164]) zB zB fun hs=>?_
 try refine zW ?_
 (refine zM [1,2,300] ?_;refine zI [none,none,some [0,1,3,4,5,6,7,8,9,12],none,none,none,none,none,none,none,some [0,1,12],none,some [0,1,2,3,4,5,6,7,8,9,10,11],some []] ?_)
 (try simp (maxSteps:=2000000) (disch:=omega) only [go_sem,simprocAttr,zD,zE,mn10,Nat.sub_zero,List.drop_zero,tk_min,tk_len])
 refine walk_ownB 3 0 2 2 trivial rfl rfl rfl (.inr rfl) ?_
 simp only [List.set_cons_zero,List.set_cons_succ,Nat.reduceAdd]
 (refine walk_trim [1,2,3,4,300] trivial zL ?_;((try refine zW ?_);(try with_reducible exact True.intro)))
 refine qac 200 200 (fun i:Nat × Nat × List (Int × List (Int × Int))=>i.1≤picks.length∧i.1≤10∧i.2.2=(picks.take i.1).map cutP)
  (fun i=>⟨74, [(1, .ptr 0 0 0 0),(2, .ptr 1 0 0 0),(3, .ptr 3 0 0 0),(4,sci .i64 i.1)], [],5,
   [(4, .arr 2 i.2.1 (ir ePk i.2.2)),(3, .arr 4 0 [[sci .i64 mode,lI (waits.take 10), .ref 4 i.2.1 0 i.2.2.length, .p (.sc (.slice none 0 0))]]),
    (1, .arr 4 0 [[sci .i64 0, .p (.sc (.slice none 0 0)), .p (.sc (.slice none 0 0)), .p (.sc (.slice none 0 0))]]),
    (0, .arr 4 0 [[sci .i64 mode,lI waits, .p (.imm 2 (pr ePk picks)), .p (.imm 3 (pr eIII takes))]])]⟩) (fun i=>10 - i.1) (0,0, []) [2] ?_ ?_ ?_
 ·simp
 ·constructor<;>(try simp (maxSteps:=2000000) (disch:=omega) only [go_sem,simprocAttr,zD,zE,Int.natCast_zero,tk_self])
 ·rintro⟨i,g,acc⟩ ⟨h1,h2,h3⟩
  simp only at h1 h2 h3
  have hal:acc.length=i:=by rw [h3];simp;omega
  try refine zW ?_
  by_cases hlt:i < picks.length∧i < 10
  ·obtain⟨hl,h10⟩:=hlt
   (try simp (maxSteps:=2000000) (disch:=omega) only [go_sem,simprocAttr,zD,zE,ePk])
   (refine zM [1,2,3,4,5,300] ?_;refine zI [none,none,none,none,some [0,1,2,3,5,6,7,8,9,10,11],none,none,none,none,none,none,none,some [0,1,2,3],none,some [0,1],some [],none,some []] ?_)
   (try simp (maxSteps:=2000000) (disch:=omega) only [go_sem,simprocAttr,zD,zE,mn10,Nat.sub_zero,List.drop_zero,tk_min,tk_len,ePk])
   refine⟨(i+1,g+1,acc++ [cutP picks[i]]), [6],⟨hl,h10,?_⟩,?_,?_⟩
   ·simp only [h3]
    rw [List.take_succ_eq_append_getElem hl,List.map_append,List.map_cons,List.map_nil]
   ·simp only;omega
   ·constructor<;>(try simp (maxSteps:=2000000) (disch:=omega) only [go_sem,simprocAttr,zD,zE,cutP,tk_self,ePk,ir_snoc,List.map_cons,List.map_nil])
  ·have h10:picks.take i=picks.take 10:=by
    rcases Nat.lt_or_ge i 10 with h | h
    ·rw [List.take_of_length_le (by omega),List.take_of_length_le (by omega)]
    ·rw [show i=10 by omega]
   rw [h10] at h3
   rcases Nat.lt_or_ge i picks.length with hl | hl
   all_goals
    try refine zO ?_
    refine walk_ownB 3 0 3 3 trivial rfl rfl rfl (.inr rfl) ?_
    simp only [List.set_cons_zero,List.set_cons_succ,Nat.reduceAdd]
    (refine walk_trim [1,2,3,6,300] trivial zL ?_;((try refine zW ?_);(try with_reducible exact True.intro)))
    refine qac 200 200 (fun j:Nat × Nat=>j.1≤takes.length∧j.1≤30)
     (fun j=>⟨74, [(1, .ptr 0 0 0 0),(2, .ptr 1 0 0 0),(3, .ptr 3 0 0 0),(6,sci .i64 j.1)], [],6,
      [(5, .arr 3 j.2 (ir eIII (takes.take j.1))),(3, .arr 4 0 [[sci .i64 mode,lI (waits.take 10), .p (.imm 2 (pr ePk acc)), .ref 5 j.2 0 j.1]]),
       (1, .arr 4 0 [[sci .i64 0, .p (.sc (.slice none 0 0)), .p (.sc (.slice none 0 0)), .p (.sc (.slice none 0 0))]]),
       (0, .arr 4 0 [[sci .i64 mode,lI waits, .p (.imm 2 (pr ePk picks)), .p (.imm 3 (pr eIII takes))]])]⟩) (fun j=>30 - j.1) (0,0) [4] ?_ ?_ ?_
    ·simp
    ·constructor<;>(try simp (maxSteps:=2000000) (disch:=omega) only [go_sem,simprocAttr,zD,zE,Int.natCast_zero,List.take_zero])
    ·clear hl hlt hal h1 h2 h10
     rintro⟨j,g2⟩ ⟨k1,k2⟩
     simp only at k1 k2
     have hjl:(takes.take j).length=j:=by simp;omega
     have hjj:(takes.take j).take j=takes.take j:=List.take_of_length_le (by omega)
     try refine zW ?_
     by_cases hlt:j < takes.length∧j < 30
     ·obtain⟨hl,h30⟩:=hlt
      (try simp (maxSteps:=2000000) (disch:=omega) only [go_sem,simprocAttr,zD,zE,eIII])
      (refine zM [1,2,3,6,300] ?_;refine zI [none,none,none,none,none,none,none,some [0,1],some [],none,some []] ?_)
      (try simp (maxSteps:=2000000) (disch:=omega) only [go_sem,simprocAttr,zD,zE,eIII,hjl])
      refine⟨(j+1,g2+1), [],⟨hl,h30⟩,?_,?_⟩
      ·simp only;omega
      ·constructor<;>(try simp (maxSteps:=2000000) (disch:=omega) only [go_sem,simprocAttr,zD,zE,eIII,hjj,List.take_succ_eq_append_getElem hl,ir_snoc,List.map_cons,List.map_nil])
     ·have h30:takes.take j=takes.take 30:=by
       rcases Nat.lt_or_ge j 30 with h | h
       ·rw [List.take_of_length_le (by omega),List.take_of_length_le (by omega)]
       ·rw [show j=30 by omega]
      rw [h30] at hjj
      rcases Nat.lt_or_ge j takes.length with hl | hl
      all_goals
       (try simp (maxSteps:=2000000) (disch:=omega) only [go_sem,simprocAttr,zD,zE,h30,h3,qd7,hjj])
def qeT (n:Nd):Nd:=⟨n.start,(n.states.take 10).map qd7⟩
theorem qn0 (T:List Nd):Pure prog 76 [.p (.imm 2 (pr eNd T))] (.p (.imm 2 (pr eNd ((T.take 8).map qeT)))):=by
 refine pcall0 200 (fn:=f76) func76 rfl (by simp [ntmps76]) zB zB fun hs=>?_
 try refine zW ?_
 refine qbe 3 2 trivial rfl (.inl rfl) ?_
 (refine walk_trim [0,3,4] trivial zL ?_;((try refine zW ?_);(try with_reducible exact True.intro)))
 refine qac 200 200 (fun i:Nat × Nat × List Nd=>i.1≤T.length∧i.1≤8∧i.2.2=(T.take i.1).map qeT)
  (fun i=>⟨57, [(0, .p (.imm 2 (pr eNd T))),(3, .ref 0 i.2.1 0 i.2.2.length),(4,sci .i64 i.1)], [],1, [(0, .arr 2 i.2.1 (ir eNd i.2.2))]⟩) (fun i=>8 - i.1) (0,0, []) [] ?_ ?_ ?_
 ·simp
 ·constructor<;>(try simp (maxSteps:=2000000) (disch:=omega) only [go_sem,simprocAttr,zD,zE,Int.natCast_zero])
 ·rintro⟨i,g,acc⟩ ⟨h1,h2,h3⟩
  simp only at h1 h2 h3
  have hal:acc.length=i:=by rw [h3];simp;omega
  try refine zW ?_
  by_cases hlt:i < T.length∧i < 8
  ·obtain⟨hl,h8⟩:=hlt
   (try simp (maxSteps:=2000000) (disch:=omega) only [go_sem,simprocAttr,zD,zE,eNd])
   refine walk_ownB 1 0 1 4 trivial rfl rfl rfl (.inr rfl) ?_
   simp only [List.set_cons_zero,List.set_cons_succ,Nat.reduceAdd]
   (refine walk_trim [0,3,4,5,6] trivial zL ?_;((try refine zW ?_);(try with_reducible exact True.intro)))
   generalize hss:T[i].states=ss
   generalize hst:T[i].start=st
   refine qac 200 200 (fun k:Nat × Nat × List St=>k.1≤ss.length∧k.1≤10∧k.2.2=(ss.take k.1).map qd7)
    (fun k=>⟨57, [(0, .p (.imm 2 (pr eNd T))),(3, .ref 0 g 0 acc.length),(4,sci .i64 i),(5, .ptr 1 0 0 0),(6,sci .i64 k.1)], [],3,
     [(1, .arr 2 0 [[sci .i64 st, .ref 2 k.2.1 0 k.2.2.length]]),(2, .arr 4 k.2.1 (ir eSt k.2.2)),(0, .arr 2 g (ir eNd acc))]⟩) (fun k=>10 - k.1) (0,0, []) [] ?_ ?_ ?_
   ·simp
   ·constructor<;>(try simp (maxSteps:=2000000) (disch:=omega) only [go_sem,simprocAttr,zD,zE,Int.natCast_zero])
   ·rintro⟨k,g2,al⟩ ⟨k1,k2,k3⟩
    simp only at k1 k2 k3
    have hkl:al.length=k:=by rw [k3];simp;omega
    try refine zW ?_
    by_cases hlt:k < ss.length∧k < 10
    ·obtain⟨hk,h10⟩:=hlt
     (try simp (maxSteps:=2000000) (disch:=omega) only [go_sem,simprocAttr,zD,zE,eNd,hss])
     (refine zM [0,3,4,5,6] ?_;refine zI [none,none,none,none,none,none,none,none,none,none,some [0,1],some [0,1],some [],none,some []] ?_)
     (try simp (maxSteps:=2000000) (disch:=omega) only [go_sem,simprocAttr,zD,zE,eNd,eSt,hss])
     (refine zF ?_;refine callA_of (qn2 ss[k]) zB ?_)
     try refine zO ?_
     refine⟨(k+1,g2+1,al++ [qd7 ss[k]]), [],⟨hk,h10,?_⟩,?_,?_⟩
     ·simp only [k3]
      rw [List.take_succ_eq_append_getElem hk,List.map_append,List.map_cons,List.map_nil]
     ·simp only;omega
     ·constructor<;>(try simp (maxSteps:=2000000) (disch:=omega) only [go_sem,simprocAttr,zD,zE,eSt,ir_snoc,List.map_cons,List.map_nil])
    ·have h10:ss.take k=ss.take 10:=by
      rcases Nat.lt_or_ge k 10 with h | h
      ·rw [List.take_of_length_le (by omega),List.take_of_length_le (by omega)]
      ·rw [show k=10 by omega]
     rw [h10] at k3
     rcases Nat.lt_or_ge k ss.length with hk | hk
     all_goals
      (try simp (maxSteps:=2000000) (disch:=omega) only [go_sem,simprocAttr,zD,zE,eNd,hss])
      refine⟨(i+1,g+1,acc++ [qeT T[i]]), [2],⟨hl,h8,?_⟩,?_,?_⟩
      ·simp only [h3]
       rw [List.take_succ_eq_append_getElem hl,List.map_append,List.map_cons,List.map_nil]
      ·simp only;omega
      ·constructor<;>(try simp (maxSteps:=2000000) (disch:=omega) only [go_sem,simprocAttr,zD,zE,eNd,qeT,hss,hst,←k3,ir_snoc,List.map_cons,List.map_nil])
  ·have h10:T.take i=T.take 8:=by
    rcases Nat.lt_or_ge i 8 with h | h
    ·rw [List.take_of_length_le (by omega),List.take_of_length_le (by omega)]
    ·rw [show i=8 by omega]
   rw [h10] at h3
   rcases Nat.lt_or_ge i T.length with hl | hl
   all_goals
    (try simp (maxSteps:=2000000) (disch:=omega) only [go_sem,simprocAttr,zD,zE,←h3])
def OkSt (s:St):Prop:=s.waits.length≤10∧s.picks.length≤10∧(∀p∈s.picks,p.2.length≤10)∧s.takes.length≤30
def OkNd (n:Nd):Prop:=n.states.length≤10∧ ∀s∈n.states,OkSt s
theorem tkl {α:Type} {l:List α} {j:Nat} (h:j≤l.length):(l.take j).length=j:=by simp;omega
theorem tks {α:Type} {l:List α} {j:Nat} (h:j < l.length):l.take (j+1)=l.take j++ [l[j]]:=List.take_succ_eq_append_getElem h
theorem tkt {α:Type} {l:List α} {j:Nat}:(l.take j).take j=l.take j:=by rw [List.take_take,Nat.min_self]
theorem qkn (s:St) (hk:OkSt s):Pure prog 165 [lSt s] (lSt s):=by
 obtain⟨mode,waits,picks,takes⟩:=s
 obtain⟨hk1,hk2,hk3,hk4⟩:=hk
 simp only at hk1 hk2 hk3 hk4
 refine pcall0 200 (fn:=f165) func165 rfl (by simp [ntmps165]) zB zB fun hs=>?_
 try refine zW ?_
 refine walk_ownB 2 0 2 2 trivial rfl rfl rfl (.inr rfl) ?_
 simp only [List.set_cons_zero,List.set_cons_succ,Nat.reduceAdd]
 (refine walk_trim [1,2,3,4,187] trivial zL ?_;((try refine zW ?_);(try with_reducible exact True.intro)))
 refine qac 200 200 (fun i:Nat × Nat=>i.1≤picks.length)
  (fun i=>⟨102, [(1, .ptr 0 0 0 0),(2, .ptr 1 0 0 0),(3, .ptr 2 0 0 0),(4,sci .i64 i.1)], [],4, [(3, .arr 2 i.2 (ir ePk (picks.take i.1))),(2, .arr 4 0 [[sci .i64 mode,lI waits, .ref 3 i.2 0 i.1, .p (.sc (.slice none 0 0))]]),(1, .arr 4 0 [[sci .i64 0, .p (.sc (.slice none 0 0)), .p (.sc (.slice none 0 0)), .p (.sc (.slice none 0 0))]]),(0, .arr 4 0 [[sci .i64 mode,lI waits, .p (.imm 2 (pr ePk picks)), .p (.imm 3 (pr eIII takes))]])]⟩) (fun i=>picks.length - i.1) (0,0) [] ?_ ?_ ?_
 ·simp
 ·constructor<;>(try simp (maxSteps:=2000000) (disch:=omega) only [go_sem,simprocAttr,zD,zE,Int.natCast_zero,List.take_of_length_le,List.append_assoc,List.take_zero])
 ·rintro⟨i,g⟩ hi
  simp only at hi
  try refine zW ?_
  by_cases li:i < picks.length
  ·have hpl:=hk3 picks[i] (List.getElem_mem li)
   have hpt:picks.take (i+1)=picks.take i++ [picks[i]]:=tks li
   have htt:(picks.take i).length=i:=tkl hi
   have hti:(picks.take i).take i=picks.take i:=tkt
   generalize hp:picks[i]=p at *
   obtain⟨nx,sends⟩:=p
   simp only at hpl
   (try simp (maxSteps:=2000000) (disch:=omega) only [go_sem,simprocAttr,zD,zE,ePk,hp])
   refine walk_ownB 4 0 1 2 trivial rfl rfl rfl (.inr rfl) ?_
   simp only [List.set_cons_zero,List.set_cons_succ,Nat.reduceAdd]
   (refine walk_trim [1,2,3,4,5,6,187] trivial zL ?_;((try refine zW ?_);(try with_reducible exact True.intro)))
   refine qac 200 200 (fun k:Nat × Nat=>k.1≤sends.length)
    (fun k=>⟨102, [(1, .ptr 0 0 0 0),(2, .ptr 1 0 0 0),(3, .ptr 2 0 0 0),(4,sci .i64 i),(5, .ptr 4 0 0 0),(6,sci .i64 k.1)], [],6, [(5, .arr 2 k.2 (ir eII (sends.take k.1))),(4, .arr 2 0 [[sci .i64 nx, .ref 5 k.2 0 k.1]]),(3, .arr 2 g (ir ePk (picks.take i))),(2, .arr 4 0 [[sci .i64 mode,lI waits, .ref 3 g 0 i, .p (.sc (.slice none 0 0))]]),(1, .arr 4 0 [[sci .i64 0, .p (.sc (.slice none 0 0)), .p (.sc (.slice none 0 0)), .p (.sc (.slice none 0 0))]]),(0, .arr 4 0 [[sci .i64 mode,lI waits, .p (.imm 2 (pr ePk picks)), .p (.imm 3 (pr eIII takes))]])]⟩) (fun k=>sends.length - k.1) (0,0) [] ?_ ?_ ?_
   ·simp
   ·constructor<;>(try simp (maxSteps:=2000000) (disch:=omega) only [go_sem,simprocAttr,zD,zE,Int.natCast_zero,List.take_of_length_le,List.append_assoc,List.take_zero])
   ·rintro⟨k,e⟩ hk
    simp only at hk
    try refine zW ?_
    by_cases lk:k < sends.length
    ·have hpt2:sends.take (k+1)=sends.take k++ [sends[k]]:=tks lk
     have htt2:(sends.take k).length=k:=tkl hk
     have hti2:(sends.take k).take k=sends.take k:=tkt
     (try simp (maxSteps:=2000000) (disch:=omega) only [go_sem,simprocAttr,zD,zE,ePk,hp])
     (refine zM [1,2,3,4,5,6,187] ?_;refine zI [none,none,none,none,none,none,none,none,none,none,none,none,none,none,none,none,none,none,none,none,none,none,none,some [0,1],some [],none,some []] ?_)
     (try simp (maxSteps:=2000000) (disch:=omega) only [go_sem,simprocAttr,zD,zE,ePk,hp,eII,htt2])
     refine⟨(k+1,e+1), [],by first | assumption | omega,?_,?_⟩
     ·(try simp only []);omega
     ·constructor<;>(try simp (maxSteps:=2000000) (disch:=omega) only [go_sem,simprocAttr,zD,zE,hpt2,hti2,eII,ir_snoc,List.map_cons,List.map_nil,List.append_assoc])
    ·obtain rfl:k=sends.length:=by omega
     (try simp (maxSteps:=2000000) (disch:=omega) only [go_sem,simprocAttr,zD,zE,ePk,hp,htt])
     refine⟨(i+1,g+1), [5],by first | assumption | omega,?_,?_⟩
     ·(try simp only []);omega
     ·constructor<;>(try simp (maxSteps:=2000000) (disch:=omega) only [go_sem,simprocAttr,zD,zE,hpt,hti,ePk,ir_snoc,List.map_cons,List.map_nil,List.append_assoc])
  ·obtain rfl:i=picks.length:=by omega
   (try simp (maxSteps:=2000000) (disch:=omega) only [go_sem,simprocAttr,zD,zE,List.take_length])
   refine walk_ownB 2 0 3 3 trivial rfl rfl rfl (.inr rfl) ?_
   simp only [List.set_cons_zero,List.set_cons_succ,Nat.reduceAdd]
   (refine walk_trim [1,2,3,7,187] trivial zL ?_;((try refine zW ?_);(try with_reducible exact True.intro)))
   refine qac 200 200 (fun j:Nat × Nat=>j.1≤takes.length)
    (fun j=>⟨102, [(1, .ptr 0 0 0 0),(2, .ptr 1 0 0 0),(3, .ptr 2 0 0 0),(7,sci .i64 j.1)], [],5, [(4, .arr 3 j.2 (ir eIII (takes.take j.1))),(2, .arr 4 0 [[sci .i64 mode,lI waits, .p (.imm 2 (pr ePk picks)), .ref 4 j.2 0 j.1]]),(1, .arr 4 0 [[sci .i64 0, .p (.sc (.slice none 0 0)), .p (.sc (.slice none 0 0)), .p (.sc (.slice none 0 0))]]),(0, .arr 4 0 [[sci .i64 mode,lI waits, .p (.imm 2 (pr ePk picks)), .p (.imm 3 (pr eIII takes))]])]⟩) (fun j=>takes.length - j.1) (0,0) [3] ?_ ?_ ?_
   ·simp
   ·constructor<;>(try simp (maxSteps:=2000000) (disch:=omega) only [go_sem,simprocAttr,zD,zE,Int.natCast_zero,List.take_of_length_le,List.append_assoc,List.take_zero,List.take_length])
   ·rintro⟨j,e⟩ hj
    simp only at hj
    try refine zW ?_
    by_cases lj:j < takes.length
    ·have hpt2:takes.take (j+1)=takes.take j++ [takes[j]]:=tks lj
     have htt2:(takes.take j).length=j:=tkl hj
     have hti2:(takes.take j).take j=takes.take j:=tkt
     (try simp (maxSteps:=2000000) (disch:=omega) only [go_sem,simprocAttr,zD,zE,eIII])
     (refine zM [1,2,3,7,187] ?_;refine zI [none,none,none,none,none,none,none,none,none,none,none,none,none,none,none,none,none,none,none,none,none,some [0,1],some [],none,some []] ?_)
     (try simp (maxSteps:=2000000) (disch:=omega) only [go_sem,simprocAttr,zD,zE,eIII,htt2])
     refine⟨(j+1,e+1), [],by first | assumption | omega,?_,?_⟩
     ·(try simp only []);omega
     ·constructor<;>(try simp (maxSteps:=2000000) (disch:=omega) only [go_sem,simprocAttr,zD,zE,hpt2,hti2,eIII,ir_snoc,List.map_cons,List.map_nil,List.append_assoc])
    ·obtain rfl:j=takes.length:=by omega
     (try simp (maxSteps:=2000000) (disch:=omega) only [go_sem,simprocAttr,zD,zE,List.take_length])
theorem qn1 (T:List Nd) (hT:T.length≤8) (hk: ∀n∈T,OkNd n):Pure prog 77 [.p (.imm 2 (pr eNd T))] (.p (.imm 2 (pr eNd T))):=by
 refine pcall0 200 (fn:=f77) func77 rfl (by simp [ntmps77]) zB zB fun hs=>?_
 try refine zW ?_
 refine qbe 3 2 trivial rfl (.inl rfl) ?_
 (refine walk_trim [0,3,4] trivial zL ?_;((try refine zW ?_);(try with_reducible exact True.intro)))
 refine qac 200 200 (fun i:Nat × Nat=>i.1≤T.length)
  (fun i=>⟨49, [(0, .p (.imm 2 (pr eNd T))),(3, .ref 0 i.2 0 i.1),(4,sci .i64 i.1)], [],1, [(0, .arr 2 i.2 (ir eNd (T.take i.1)))]⟩) (fun i=>T.length - i.1) (0,0) [] ?_ ?_ ?_
 ·simp
 ·constructor<;>(try simp (maxSteps:=2000000) (disch:=omega) only [go_sem,simprocAttr,zD,zE,Int.natCast_zero,List.take_of_length_le,List.append_assoc,List.take_zero])
 ·rintro⟨i,g⟩ hi
  simp only at hi
  try refine zW ?_
  by_cases li:i < T.length
  ·have hnd:=hk T[i] (List.getElem_mem li)
   have hpt:T.take (i+1)=T.take i++ [T[i]]:=tks li
   have htt:(T.take i).length=i:=tkl hi
   have hti:(T.take i).take i=T.take i:=tkt
   generalize hp:T[i]=p at *
   obtain⟨st,ss⟩:=p
   obtain⟨hs1,hs2⟩:=hnd
   simp only at hs1 hs2
   (try simp (maxSteps:=2000000) (disch:=omega) only [go_sem,simprocAttr,zD,zE,eNd,hp])
   refine walk_ownB 1 0 1 4 trivial rfl rfl rfl (.inr rfl) ?_
   simp only [List.set_cons_zero,List.set_cons_succ,Nat.reduceAdd]
   (refine walk_trim [0,3,4,5,6] trivial zL ?_;((try refine zW ?_);(try with_reducible exact True.intro)))
   refine qac 200 200 (fun k:Nat × Nat=>k.1≤ss.length)
    (fun k=>⟨49, [(0, .p (.imm 2 (pr eNd T))),(3, .ref 0 g 0 i),(4,sci .i64 i),(5, .ptr 1 0 0 0),(6,sci .i64 k.1)], [],3, [(2, .arr 4 k.2 (ir eSt (ss.take k.1))),(1, .arr 2 0 [[sci .i64 st, .ref 2 k.2 0 k.1]]),(0, .arr 2 g (ir eNd (T.take i)))]⟩) (fun k=>ss.length - k.1) (0,0) [] ?_ ?_ ?_
   ·simp
   ·constructor<;>(try simp (maxSteps:=2000000) (disch:=omega) only [go_sem,simprocAttr,zD,zE,Int.natCast_zero,List.take_of_length_le,List.append_assoc,List.take_zero])
   ·rintro⟨k,e⟩ hk
    simp only at hk
    try refine zW ?_
    by_cases lk:k < ss.length
    ·have hst:=hs2 ss[k] (List.getElem_mem lk)
     have hpt2:ss.take (k+1)=ss.take k++ [ss[k]]:=tks lk
     have htt2:(ss.take k).length=k:=tkl hk
     have hti2:(ss.take k).take k=ss.take k:=tkt
     (try simp (maxSteps:=2000000) (disch:=omega) only [go_sem,simprocAttr,zD,zE,eNd,hp])
     (refine zM [0,3,4,5,6] ?_;refine zI [none,none,none,none,none,none,none,none,none,none,some [0,1],some [0,1],some [],none,some []] ?_)
     (try simp (maxSteps:=2000000) (disch:=omega) only [go_sem,simprocAttr,zD,zE,eNd,hp,eSt,htt2])
     (refine zF ?_;refine callA_of (qkn ss[k] hst) zB ?_)
     (try simp (maxSteps:=2000000) (disch:=omega) only [go_sem,simprocAttr,zD,zE,htt2])
     refine⟨(k+1,e+1), [],by first | assumption | omega,?_,?_⟩
     ·(try simp only []);omega
     ·constructor<;>(try simp (maxSteps:=2000000) (disch:=omega) only [go_sem,simprocAttr,zD,zE,hpt2,hti2,Nat.min_eq_left,eSt,ir_snoc,List.map_cons,List.map_nil,List.append_assoc])
    ·obtain rfl:k=ss.length:=by omega
     (try simp (maxSteps:=2000000) (disch:=omega) only [go_sem,simprocAttr,zD,zE,eNd,hp,htt])
     refine⟨(i+1,g+1), [2],by first | assumption | omega,?_,?_⟩
     ·(try simp only []);omega
     ·constructor<;>(try simp (maxSteps:=2000000) (disch:=omega) only [go_sem,simprocAttr,zD,zE,hpt,hti,eNd,List.take_length,ir_snoc,List.map_cons,List.map_nil,List.append_assoc])
  ·obtain rfl:i=T.length:=by omega
   (try simp (maxSteps:=2000000) (disch:=omega) only [go_sem,simprocAttr,zD,zE,List.take_length])
def cutSc (s:Sc):Sc:=⟨s.N,s.ls.take 40,(s.T.take 8).map qeT,s.fifo,s.room,s.acts.take 60⟩
theorem qeL (s:Sc):Pure prog 15 [lApp s] (lApp (cutSc s)):=by
 refine pcall0 200 (fn:=f15) func15 rfl (by simp [ntmps15]) zB zB fun hs=>?_
 try refine zW ?_
 (refine zM [1,2,27] ?_;refine zI [none,none,some [3,4,6,7],none,none,some [6,7],none,none,none,some []] ?_)
 try refine zW ?_
 (refine zF ?_;refine callA_of (qnZ _ _) zB ?_)
 try refine zW ?_
 (refine zF ?_;refine callA_of (qn0 _) zB ?_)
 (try simp only [go_sem,simprocAttr,cutSc])
theorem qeK (s:Sc) (hT:s.T.length≤8) (hk: ∀n∈s.T,OkNd n):Pure prog 16 [lApp s] (lApp s):=by
 refine pcall0 200 (fn:=f16) func16 rfl (by simp [ntmps16]) zB zB fun hs=>?_
 try refine zW ?_
 (refine zM [1,2,33] ?_;refine zI [none,none,some [3,4,6,7],none,none,some [6,7],none,none,none,some []] ?_)
 try refine zW ?_
 (refine zF ?_;refine callA_of (qeJ _ _) zB ?_)
 try refine zW ?_
 (refine zF ?_;refine callA_of (qn1 _ hT hk) zB ?_)
 ((try refine zW ?_);(try with_reducible exact True.intro))
end Go.Proofs.NO
/- Graphs: links found, links from a node and to one, distances, and which graphs may be. No program in sight. -/
namespace Go.GP
def qaF (a b:Int):Nat→List (Int × Int)→Int
 | _, []=> -1
 | i,x::r=>if x.1=a∧x.2=b then i else qaF a b (i+1) r
def outs (n:Int):Nat→List (Int × Int)→List Int
 | _, []=> []
 | i,x::r=>if x.1=n then(i:Int)::outs n (i+1) r else outs n (i+1) r
def ins (n:Int):Nat→List (Int × Int)→List Int
 | _, []=> []
 | i,x::r=>if x.2=n then(i:Int)::ins n (i+1) r else ins n (i+1) r
def qaz (ls:List (Int × Int)) (l:Int):Int:=if h:0≤l∧l.toNat < ls.length then qaF ls[l.toNat].2 ls[l.toNat].1 0 ls else -1
theorem qhM {a b:Int}: ∀ {ls:List (Int × Int)} {s:Nat},0≤qaF a b s ls→ ∃j,∃hj:j < ls.length,qaF a b s ls=((s+j:Nat):Int)∧ls[j]=(a,b)
 | [],s,h=>by simp [qaF] at h
 | x::r,s,h=>by
   unfold qaF at h ⊢
   split
   ·rename_i q
    exact⟨0,by simp,by simp,by simp;exact Prod.ext q.1 q.2⟩
   ·rename_i q
    rw [if_neg q] at h
    obtain⟨j,hj,e1,e2⟩:=qhM h
    exact⟨j+1,by simp;omega,by rw [e1];omega,by simpa using e2⟩
theorem qjf {a b:Int}: ∀ {ls:List (Int × Int)} {s:Nat},qaF a b s ls < 0→(a,b) ∉ ls
 | [],s,_=>by simp
 | x::r,s,h=>by
   unfold qaF at h
   split at h
   ·omega
   ·rename_i q
    intro hm
    rcases List.mem_cons.1 hm with e | e
    ·exact q (by rw [←e];exact⟨rfl,rfl⟩)
    ·exact qjf h e
theorem qcg {a b:Int} {s:Nat} {ls:List (Int × Int)}:0≤qaF a b s ls↔(a,b)∈ls:=by
 constructor
 ·intro h
  obtain⟨j,hj,_,e⟩:=qhM h
  rw [←e];exact List.getElem_mem hj
 ·intro h
  rcases Int.lt_or_le (qaF a b s ls) 0 with q | q
  ·exact absurd h (qjf q)
  ·exact q
/-! ### distances -/
def relax (k:Int) (out:List Int) (x:Int × Int):List Int:=
 if out.getD x.1.toNat 0=k∧out.getD x.2.toNat 0 < 0 then out.set x.2.toNat (k+1) else out
def qce (ls:List (Int × Int)):Nat→Nat→List Int→List Int
 | 0,_,out=>out
 | f+1,k,out=>qce ls f (k+1) (ls.foldl (relax k) out)
def qbg (N:Nat) (ls:List (Int × Int)) (n:Nat):List Int:=qce ls N 0 ((List.replicate N (-1)).set n 0)
def InR (N:Nat) (ls:List (Int × Int)):Prop:= ∀x∈ls,(0≤x.1∧x.1 < N)∧0≤x.2∧x.2 < N
theorem qf1 {k:Int} {out:List Int} {x:Int × Int}:(relax k out x).length=out.length:=by unfold relax;split<;>simp
theorem qej {k:Int}: ∀ {ls:List (Int × Int)} {out:List Int},(ls.foldl (relax k) out).length=out.length
 | [],out=>rfl
 | x::r,out=>by rw [List.foldl_cons,qej,qf1]
theorem qfm {ls:List (Int × Int)}: ∀ {f k:Nat} {out:List Int},(qce ls f k out).length=out.length
 | 0,k,out=>rfl
 | f+1,k,out=>by rw [qce,qfm,qej]
theorem qcf {N n:Nat} {ls:List (Int × Int)}:(qbg N ls n).length=N:=by unfold qbg;rw [qfm];simp
inductive Reach (ls:List (Int × Int)) (r:Nat):Nat→Prop where
 | refl:Reach ls r r
 | step {a b:Int}:Reach ls r a.toNat→(a,b)∈ls→Reach ls r b.toNat
theorem Reach.trans {ls:List (Int × Int)} {r m n:Nat} (h:Reach ls r m) (k:Reach ls m n):Reach ls r n:=by
 induction k with
 | refl=>exact h
 | step _ hm ih=>exact .step ih hm
theorem Reach.back {ls:List (Int × Int)} {r n:Nat} (hs: ∀x∈ls,(x.2,x.1)∈ls) (h:Reach ls r n):Reach ls n r:=by
 induction h with
 | refl=>exact .refl
 | step _ hm ih=>exact Reach.trans (.step .refl (hs _ hm)) ih
structure Lv (N:Nat) (ls:List (Int × Int)) (r:Nat) (k:Int) (o:Nat→Int):Prop where
 lo: ∀v,v < N→o v= -1∨0≤o v∧o v≤k
 down: ∀v,v < N→1≤o v→ ∃u,u < N∧o u=o v - 1
 from_: ∀v,v < N→0≤o v→Reach ls r v
 start:o r=0
def at' (o:List Int) (v:Nat):Int:=o.getD v 0
theorem qcu {o:List Int} {v w:Nat} {c:Int} (hw:w < o.length):at' (o.set w c) v=if v=w then c else at' o v:=by
 unfold at' List.getD
 rw [List.getElem?_set]
 by_cases e:w=v
 ·subst e;simp [hw]
 ·simp [e,Ne.symm e]
theorem qjE {N:Nat} {ls:List (Int × Int)} {r:Nat} {k:Int} (hk:0≤k): ∀(l:List (Int × Int)) (o:List Int),(∀x∈l,x∈ls∧((0≤x.1∧x.1 < N)∧0≤x.2∧x.2 < N))→o.length=N→Lv N ls r (k+1) (at' o)→
  Lv N ls r (k+1) (at' (l.foldl (relax k) o))∧(∀v,v < N→0≤at' o v→at' (l.foldl (relax k) o) v=at' o v)∧
  (∀v,v < N→at' o v < 0→at' (l.foldl (relax k) o) v < 0∨at' (l.foldl (relax k) o) v=k+1)∧ ∀x∈l,at' o x.1.toNat=k→0≤at' (l.foldl (relax k) o) x.2.toNat
 | [],o,_,_,h=>⟨h,fun _ _ _=>rfl,fun _ _ q=> .inl q,fun x hx=>by cases hx⟩
 | x::l,o,hx,hl,h=>by
   obtain⟨hm,⟨a0,a1⟩,b0,b1⟩:=hx x (List.mem_cons_self ..)
   have hbn:x.2.toNat < o.length:=by omega
   have one:Lv N ls r (k+1) (at' (relax k o x))∧(∀v,v < N→0≤at' o v→at' (relax k o x) v=at' o v)∧
     (∀v,v < N→at' o v < 0→at' (relax k o x) v < 0∨at' (relax k o x) v=k+1)∧(at' o x.1.toNat=k→0≤at' (relax k o x) x.2.toNat):=by
    unfold relax
    split
    ·rename_i q
     obtain⟨q1,q2⟩:=q
     change at' o x.1.toNat=k at q1
     change at' o x.2.toNat < 0 at q2
     refine⟨⟨fun v hv=>?_,fun v hv hv1=>?_,fun v hv hv0=>?_,?_⟩,fun v hv hv0=>?_,fun v hv hv0=>?_,fun _=>?_⟩
     ·rw [qcu hbn];split
      ·right;omega
      ·exact h.lo v hv
     ·rw [qcu hbn] at hv1 ⊢
      by_cases e:v=x.2.toNat
      ·rw [if_pos e]
       refine⟨x.1.toNat,by omega,?_⟩
       rw [qcu hbn,if_neg (by rintro e2;rw [e2] at q1;omega)];omega
      ·rw [if_neg e] at hv1 ⊢
       obtain⟨u,hu,e2⟩:=h.down v hv hv1
       refine⟨u,hu,?_⟩
       rw [qcu hbn,if_neg (by rintro e3;rw [e3] at e2;omega)];exact e2
     ·rw [qcu hbn] at hv0
      by_cases e:v=x.2.toNat
      ·subst e
       exact .step (a:=x.1) (h.from_ _ (by omega) (by omega)) hm
      ·rw [if_neg e] at hv0;exact h.from_ v hv hv0
     ·rw [qcu hbn,if_neg (by rintro e;rw [←e] at q2;have:=h.start;omega)];exact h.start
     ·rw [qcu hbn,if_neg (by rintro e;rw [e] at hv0;omega)]
     ·rw [qcu hbn];split
      ·right;rfl
      ·left;exact hv0
     ·rw [qcu hbn,if_pos rfl];omega
    ·rename_i q
     refine⟨h,fun _ _ _=>rfl,fun _ _ q=> .inl q,fun e=>?_⟩
     rcases h.lo x.2.toNat (by omega) with e2 | e2
     ·exact absurd ⟨e,by show at' o x.2.toNat < 0;omega⟩ q
     ·exact e2.1
   obtain⟨o1,o2,o3,o4⟩:=one
   obtain⟨r1,r2,r3,r4⟩:=qjE hk l (relax k o x) (fun y hy=>hx y (List.mem_cons_of_mem _ hy)) (by rw [qf1,hl]) o1
   rw [List.foldl_cons]
   refine⟨r1,fun v hv h0=>?_,fun v hv h0=>?_,fun y hy e=>?_⟩
   ·rw [r2 v hv (by rw [o2 v hv h0];exact h0),o2 v hv h0]
   ·rcases o3 v hv h0 with q | q
    ·exact r3 v hv q
    ·right;rw [r2 v hv (by omega)];exact q
   ·rcases List.mem_cons.1 hy with rfl | hy
    ·have:=o4 e
     rw [r2 _ (by omega) this];exact this
    ·obtain⟨_,⟨c0,c1⟩,d0,d1⟩:=hx y (List.mem_cons_of_mem _ hy)
     exact r4 y hy (by rw [o2 _ (by omega) (by omega)];exact e)
theorem rounds {N:Nat} {ls:List (Int × Int)} {r:Nat} (hr:InR N ls): ∀(f k:Nat) (o:List Int),o.length=N→Lv N ls r k (at' o)→(∀x∈ls,0≤at' o x.1.toNat→at' o x.1.toNat < k→0≤at' o x.2.toNat)→
  Lv N ls r (k+f:Nat) (at' (qce ls f k o))∧ ∀x∈ls,0≤at' (qce ls f k o) x.1.toNat→at' (qce ls f k o) x.1.toNat < (k+f:Nat)→0≤at' (qce ls f k o) x.2.toNat
 | 0,k,o,_,h,hc=>⟨h,hc⟩
 | f+1,k,o,hl,h,hc=>by
   have h':Lv N ls r ((k:Int)+1) (at' o):=⟨fun v hv=>by rcases h.lo v hv with q | q;exact .inl q;right;omega,h.down,h.from_,h.start⟩
   obtain⟨r1,r2,r3,r4⟩:=qjE (k:=(k:Int)) (by omega) ls o (fun x hx=>⟨hx,hr x hx⟩) hl h'
   have:=rounds hr f (k+1) (ls.foldl (relax k) o) (by rw [qej,hl]) (by simpa using r1) (fun x hx h0 h1=>by
    obtain⟨⟨a0,a1⟩,b0,b1⟩:=hr x hx
    have hoa:0≤at' o x.1.toNat:=by
     rcases h.lo x.1.toNat (by omega) with q | q
     ·rcases r3 x.1.toNat (by omega) (by omega) with q2 | q2<;>omega
     ·exact q.1
    have ea:=r2 x.1.toNat (by omega) hoa
    rw [ea] at h1
    rcases Int.lt_or_le (at' o x.1.toNat) k with q | q
    ·have:=hc x hx hoa q
     rw [r2 x.2.toNat (by omega) this];exact this
    ·exact r4 x hx (by omega))
   rw [show k+(f+1)=k+1+f by omega]
   exact this
theorem qlK: ∀(m:Nat) (l:List Int),(∀i:Nat,i < m→(i:Int)∈l)→m≤l.length
 | 0,_,_=>Nat.zero_le _
 | m+1,l,h=>by
   have hm:=h m (by omega)
   have:=qlK m (l.erase (m:Int)) fun i hi=>(List.mem_erase_of_ne (by omega)).2 (h i (by omega))
   rw [List.length_erase_of_mem hm] at this
   have:0 < l.length:=List.length_pos_of_mem hm
   omega
theorem Lv.top {N:Nat} {ls:List (Int × Int)} {r:Nat} {k:Int} {o:List Int} (hl:o.length=N) (h:Lv N ls r k (at' o)) {v:Nat} (hv:v < N):at' o v < N:=by
 have at_mem: ∀u,u < N→at' o u∈o:=fun u hu=>by
  have:at' o u=o[u]'(by omega):=by simp [at',List.getD,hl,hu]
  rw [this];exact List.getElem_mem _
 have key: ∀j:Nat,(∃u,u < N∧at' o u=(j:Int))→ ∀i:Nat,i≤j→(i:Int)∈o:=by
  intro j
  induction j with
  | zero=>
    rintro⟨u,hu,e⟩ i hi
    obtain rfl:i=0:=by omega
    rw [←e];exact at_mem u hu
  | succ j ih=>
    rintro⟨u,hu,e⟩ i hi
    rcases Nat.lt_or_ge i (j+1) with q | q
    ·obtain⟨w,hw,e2⟩:=h.down u hu (by omega)
     exact ih ⟨w,hw,by omega⟩ i (by omega)
    ·obtain rfl:i=j+1:=by omega
     rw [←e];exact at_mem u hu
 rcases h.lo v hv with q | q
 ·omega
 ·have:=qlK ((at' o v).toNat+1) o fun i hi=>key (at' o v).toNat ⟨v,hv,by omega⟩ i (by omega)
  omega
theorem qgC {N r:Nat} {ls:List (Int × Int)} (hr:InR N ls) (hrN:r < N) {n:Nat} (hn:n < N):0≤at' (qbg N ls r) n↔Reach ls r n:=by
 have h0: ∀v,at' ((List.replicate N (-1)).set r 0) v=if v=r then 0 else at' (List.replicate N (-1)) v:=fun v=>qcu (by simpa using hrN)
 have hm: ∀v,v < N→at' (List.replicate N (-1)) v= -1:=fun v hv=>by simp [at',List.getD,hv]
 obtain⟨h1,h2⟩:=rounds hr N 0 ((List.replicate N (-1)).set r 0) (by simp) (r:=r)
  ⟨fun v hv=>by rw [h0];split<;>simp [hm v hv],fun v hv h=>by rw [h0] at h;split at h<;>simp [hm v hv] at h,fun v hv h=>by
   rw [h0] at h;split at h
   ·rename_i e;rw [e];exact .refl
   ·rw [hm v hv] at h;omega,by rw [h0,if_pos rfl]⟩
  (fun x hx h q=>by
   obtain⟨⟨a0,a1⟩,b0,b1⟩:=hr x hx
   rw [h0] at h q
   split at q
   ·omega
   ·rw [hm _ (by omega)] at h;omega)
 change Lv N ls r _ (at' (qbg N ls r)) at h1
 change ∀x∈ls,0≤at' (qbg N ls r) x.1.toNat→at' (qbg N ls r) x.1.toNat < _→0≤at' (qbg N ls r) x.2.toNat at h2
 refine⟨h1.from_ n hn,fun h=>?_⟩
 have all: ∀v,Reach ls r v→v < N→0≤at' (qbg N ls r) v:=by
  intro v hv
  induction hv with
  | refl=>intro _;rw [h1.start];omega
  | step hp hm ih=>
    rename_i a b
    intro _
    obtain⟨⟨a0,a1⟩,b0,b1⟩:=hr (a,b) hm
    simp only at a0 a1 b0 b1
    have:=ih (by omega)
    refine h2 (a,b) hm this ?_
    have:=h1.top qcf (v:=a.toNat) (by omega)
    show at' (qbg N ls r) a.toNat < _
    omega
 exact all n h hn
/-! ### which graphs may be -/
def qbx (N:Int) (ls:List (Int × Int)) (i:Nat) (x:Int × Int):Bool:=
 !(decide (x.1 < 0)) && !(decide (N≤x.1)) && !(decide (x.2 < 0)) && !(decide (N≤x.2)) && !(x.1==x.2) && !(qaF x.1 x.2 0 ls != (i:Int)) && !(decide (qaF x.2 x.1 0 ls < 0))
def qbS (N:Int) (ls:List (Int × Int)):Nat→List (Int × Int)→Bool
 | _, []=>true
 | i,x::r=>qbx N ls i x && qbS N ls (i+1) r
def qby (N:Int) (ls:List (Int × Int)):Bool:=
 decide (1≤N) && decide (N≤6) && decide (ls.length≤30) && qbS N ls 0 ls && (List.range N.toNat).all fun f=>(qbg N.toNat ls f).all fun d=>decide (0≤d)
theorem qel {N:Int} {ls:List (Int × Int)}: ∀ {i:Nat} {r:List (Int × Int)},qbS N ls i r=true↔ ∀(j:Nat) (x:Int × Int),r[j]? =some x→qbx N ls (i+j) x=true
 | i, []=>by simp [qbS]
 | i,y::r=>by
   simp only [qbS,Bool.and_eq_true,qel (i:=i+1) (r:=r)]
   constructor
   ·rintro⟨h1,h2⟩ j x hx
    cases j with
    | zero=>simp at hx;subst hx;exact h1
    | succ j=>
      have:=h2 j x (by simpa using hx)
      rwa [show i+1+j=i+(j+1) by omega] at this
   ·intro h
    refine⟨h 0 y rfl,fun j x hx=>?_⟩
    have:=h (j+1) x (by simpa using hx)
    rwa [show i+(j+1)=i+1+j by omega] at this
def qep (N:Int) (ls:List (Int × Int)) (i:Nat) (x:Int × Int):Prop:=
 (0≤x.1∧x.1 < N)∧(0≤x.2∧x.2 < N)∧x.1≠x.2∧qaF x.1 x.2 0 ls=(i:Int)∧(x.2,x.1)∈ls
theorem qh0 {N:Int} {ls:List (Int × Int)} {i:Nat} {x:Int × Int}:qbx N ls i x=true↔qep N ls i x:=by
 have:=qcg (a:=x.2) (b:=x.1) (s:=0) (ls:=ls)
 simp only [qbx,qep,Bool.and_eq_true,Bool.not_eq_true',decide_eq_false_iff_not,beq_eq_false_iff_ne,bne_eq_false_iff_eq,←this]
 constructor
 ·rintro⟨⟨⟨⟨⟨⟨a,b⟩,c⟩,d⟩,e⟩,f⟩,g⟩;exact⟨⟨by omega,by omega⟩,⟨by omega,by omega⟩,e,f,by omega⟩
 ·rintro⟨⟨a,b⟩,⟨c,d⟩,e,f,g⟩;exact⟨⟨⟨⟨⟨⟨by omega,by omega⟩,by omega⟩,by omega⟩,e⟩,f⟩,by omega⟩
def qcV (N:Int) (ls:List (Int × Int)):Prop:=
 1≤N∧N≤6∧ls.length≤30∧(∀(i:Nat) (x:Int × Int),ls[i]? =some x→qep N ls i x)∧ ∀v:Nat,v < N.toNat→Reach ls 0 v
theorem qcV.inR {N:Int} {ls:List (Int × Int)} (h: ∀(i:Nat) (x:Int × Int),ls[i]? =some x→qep N ls i x):InR N.toNat ls:=by
 intro x hx
 obtain⟨j,hj,rfl⟩:=List.getElem_of_mem hx
 have:=h j _ (List.getElem?_eq_getElem hj)
 obtain⟨⟨a,b⟩,⟨c,d⟩,_⟩:=this
 exact⟨⟨by omega,by omega⟩,by omega,by omega⟩
theorem qig {N:Int} {ls:List (Int × Int)}:qby N ls=true↔qcV N ls:=by
 have e1:qbS N ls 0 ls=true↔ ∀(i:Nat) (x:Int × Int),ls[i]? =some x→qep N ls i x:=by
  rw [qel]
  constructor
  ·intro h i x hx;have:=h i x hx;rw [Nat.zero_add] at this;exact qh0.1 this
  ·intro h i x hx;rw [Nat.zero_add];exact qh0.2 (h i x hx)
 simp only [qby,qcV,Bool.and_eq_true,decide_eq_true_eq,e1,List.all_eq_true,List.mem_range]
 constructor
 ·rintro⟨⟨⟨⟨h1,h2⟩,h3⟩,h4⟩,h5⟩
  refine⟨h1,h2,h3,h4,fun v hv=>?_⟩
  have hr:=qcV.inR h4
  refine(qgC hr (by omega) hv).1 ?_
  have hlen:=qcf (N:=N.toNat) (n:=0) (ls:=ls)
  have:=h5 0 (by omega) _ (List.getElem_mem (show v < (qbg N.toNat ls 0).length by omega))
  simpa [at',List.getD,hlen,hv] using this
 ·rintro⟨h1,h2,h3,h4,h5⟩
  refine⟨⟨⟨⟨h1,h2⟩,h3⟩,h4⟩,fun f hf d hd=>?_⟩
  have hr:=qcV.inR h4
  have sym: ∀x∈ls,(x.2,x.1)∈ls:=fun x hx=>by
   obtain⟨j,hj,rfl⟩:=List.getElem_of_mem hx
   exact(h4 j _ (List.getElem?_eq_getElem hj)).2.2.2.2
  obtain⟨v,hv,rfl⟩:=List.getElem_of_mem hd
  have hlen:=qcf (N:=N.toNat) (n:=f) (ls:=ls)
  have:=(qgC hr hf (n:=v) (by omega)).2 (((h5 f hf).back sym).trans (h5 v (by omega)))
  simpa [at',List.getD,hv] using this
end Go.GP
/-
 A closed call that gives one new owned block, by computing.
-/
namespace Go.Idl
variable {P:Program}
end Go.Idl
/- Graphs: what each function answers. -/
namespace Go.Proofs.NO
open Go Go.Idl Go.Proofs Go.GP Go.Proofs.Tryz
set_option maxHeartbeats 20000000
set_option maxRecDepth 100000
def indexL (a:Int):Nat→List Int→Int
 | _, []=> -1
 | i,x::r=>if a=x then i else indexL a (i+1) r
theorem qcU (l:List Int) (a:Int):Pure prog 97 [lI l,sci .i64 a] (sci .i64 (indexL a 0 l)):=by
 refine pcall0 200 (fn:=f97) func97 rfl (by simp [ntmps97]) zB zB fun hs=>?_
 simp only [go_sem,simprocAttr,maxLen] at hs
 try refine zO ?_
 refine qac 200 200 (fun i:Nat=>i≤l.length∧indexL a i (l.drop i)=indexL a 0 l)
  (fun i=>⟨19, [(0,lI l),(1,sci .i64 a),(7,sci .i64 l.length),(8,sci .i64 i)], [],0, []⟩) (fun i=>l.length - i) (0) [] ?_ ?_ ?_
 ·simp
 ·constructor<;>(try simp (disch:=omega) only [go_sem,simprocAttr,zD,zE,Int.natCast_zero,List.take_of_length_le,List.append_assoc])
 ·rintro i hi
  obtain⟨hi,hinvi⟩:=hi
  try refine zW ?_
  by_cases li:i < l.length
  ·rw [qba li,indexL] at hinvi
   by_cases e:a=l[i]
   ·rw [if_pos e] at hinvi
    (try simp (disch:=omega) only [go_sem,simprocAttr,zD,zE,eI,←e,←hinvi])
   ·rw [if_neg e] at hinvi
    (try simp (disch:=omega) only [go_sem,simprocAttr,zD,zE,eI,e])
    refine⟨i+1, [],⟨by first | assumption | omega,hinvi⟩,?_,?_⟩
    ·(try simp only []);omega
    ·constructor<;>(try simp (disch:=omega) only [go_sem,simprocAttr,zD,zE,List.append_assoc])
  ·obtain rfl:i=l.length:=by omega
   rw [List.drop_length] at hinvi
   (try simp (disch:=omega) only [go_sem,simprocAttr,zD,zE,←hinvi,indexL])
theorem qcY {a:Int}: ∀ {l:List Int} {i:Nat},0≤indexL a i l↔a∈l
 | [],i=>by simp [indexL]
 | x::r,i=>by
   unfold indexL
   split
   ·rename_i e;simp [e]
   ·rename_i e;rw [qcY,List.mem_cons];simp [e]
theorem qfl (l:List Int) (a:Int):Pure prog 147 [lI l,sci .i64 a] (scb (decide (a∈l))):=by
 refine pcall0 200 (fn:=f147) func147 rfl (by simp [ntmps147]) zB zB fun hs=>?_
 try refine zW ?_
 (refine zG ?_;refine callA_of (qcU _ _) zB ?_;try refine zW ?_)
 have e:=qcY (a:=a) (l:=l) (i:=0)
 (try simp (disch:=omega) only [go_sem,simprocAttr,zD,zE,e])
theorem qqP (N n:Int) (ls:List (Int × Int)) (hl:ls.length≤1000000):Pure prog 171 [eG N ls,sci .i64 n,sci .i64 0] (lI (outs n 0 ls)):=by
 refine pcall0 200 (fn:=f171) func171 rfl (by simp [ntmps171]) zB zB fun hs=>?_
 try refine zW ?_
 refine qbe 7 1 trivial rfl (.inr rfl) ?_
 (refine walk_trim [1,2,7,11,12,13] trivial zL ?_;((try refine zW ?_);(try with_reducible exact True.intro)))
 refine qac 200 200 (fun i:Nat × Nat × List Int=>i.1≤ls.length∧i.2.2.length≤i.1∧i.2.2++outs n i.1 (ls.drop i.1)=outs n 0 ls)
  (fun i=>⟨29, [(1,sci .i64 n),(2,sci .i64 0),(7, .ref 1 i.2.1 0 i.2.2.length),(11,lII ls),(12,sci .i64 ls.length),(13,sci .i64 i.1)], [],2,
   [(1, .arr 1 i.2.1 (ir eI i.2.2))]⟩) (fun i=>ls.length - i.1) (0,0, []) [] ?_ ?_ ?_
 ·simp
 ·constructor<;>(try simp (disch:=omega) only [go_sem,simprocAttr,zD,zE,Int.natCast_zero])
 ·rintro⟨i,g,acc⟩ ⟨h1,h2,h3⟩
  simp only at h1 h2 h3
  try refine zW ?_
  by_cases hi:i < ls.length
  ·rw [qba hi] at h3
   (try simp (disch:=omega) only [go_sem,simprocAttr,zD,zE,eII])
   by_cases hc:ls[i].1=n
   ·(try simp (disch:=omega) only [go_sem,simprocAttr,zD,zE,hc])
    refine⟨(i+1,g+1,acc++ [(i:Int)]), [],⟨hi,by simp;omega,by simpa [outs,hc] using h3⟩,by simp only;omega,?_⟩
    constructor<;>((try refine zO ?_);(try with_reducible exact True.intro))
   ·(try simp (disch:=omega) only [go_sem,simprocAttr,zD,zE,hc])
    refine⟨(i+1,g,acc), [],⟨hi,by simp only;omega,by simpa [outs,hc] using h3⟩,by simp only;omega,?_⟩
    constructor<;>((try refine zO ?_);(try with_reducible exact True.intro))
  ·obtain rfl:i=ls.length:=by omega
   rw [List.drop_length] at h3
   (try simp (disch:=omega) only [go_sem,simprocAttr,zD,zE,←h3,outs])
theorem qdM (N n:Int) (ls:List (Int × Int)) (hl:ls.length≤1000000):Pure prog 90 [eG N ls,sci .i64 n] (lI (outs n 0 ls)):=by
 refine pcall0 200 (fn:=f90) func90 rfl (by simp [ntmps90]) zB zB fun hs=>?_
 try refine zW ?_
 (refine zG ?_;refine callA_of (qqP _ _ _ hl) zB ?_)
 ((try refine zW ?_);(try with_reducible exact True.intro))
theorem qfp (N a b:Int) (ls:List (Int × Int)) (hl:ls.length≤1000000):Pure prog 96 [eG N ls,sci .i64 a,sci .i64 b] (sci .i64 (qaF a b 0 ls)):=by
 refine pcall0 200 (fn:=f96) func96 rfl (by simp [ntmps96]) zB zB fun hs=>?_
 try refine zW ?_
 (refine walk_trim [7,14,15,16] trivial zL ?_;((try refine zW ?_);(try with_reducible exact True.intro)))
 refine qac 200 200 (fun i:Nat=>i≤ls.length∧qaF a b i (ls.drop i)=qaF a b 0 ls)
  (fun i=>⟨26, [(7, .ptr 1 0 0 0),(14,lII ls),(15,sci .i64 ls.length),(16,sci .i64 i)], [],2, [(1, .arr 2 0 [[sci .i64 a,sci .i64 b]])]⟩) (fun i=>ls.length - i) (0) [] ?_ ?_ ?_
 ·simp
 ·constructor<;>(try simp (disch:=omega) only [go_sem,simprocAttr,zD,zE,Int.natCast_zero,List.take_of_length_le,List.append_assoc])
 ·rintro i hi
  obtain⟨hi,hinvi⟩:=hi
  try refine zW ?_
  by_cases li:i < ls.length
  ·rw [qba li,qaF] at hinvi
   (try simp (disch:=omega) only [go_sem,simprocAttr,zD,zE,eII])
   by_cases e1:ls[i].1=a
   ·by_cases e2:ls[i].2=b
    ·rw [if_pos ⟨e1,e2⟩] at hinvi
     (try simp (disch:=omega) only [go_sem,simprocAttr,zD,zE,e1,e2,←hinvi])
    ·rw [if_neg (fun h=>e2 h.2)] at hinvi
     (try simp (disch:=omega) only [go_sem,simprocAttr,zD,zE,e1,e2])
     refine⟨i+1, [],⟨by first | assumption | omega,hinvi⟩,?_,?_⟩
     ·(try simp only []);omega
     ·constructor<;>(try simp (disch:=omega) only [go_sem,simprocAttr,zD,zE,List.append_assoc])
   ·rw [if_neg (fun h=>e1 h.1)] at hinvi
    (try simp (disch:=omega) only [go_sem,simprocAttr,zD,zE,e1])
    refine⟨i+1, [],⟨by first | assumption | omega,hinvi⟩,?_,?_⟩
    ·(try simp only []);omega
    ·constructor<;>(try simp (disch:=omega) only [go_sem,simprocAttr,zD,zE,List.append_assoc])
  ·obtain rfl:i=ls.length:=by omega
   rw [List.drop_length] at hinvi
   (try simp (disch:=omega) only [go_sem,simprocAttr,zD,zE,←hinvi,qaF])
end Go.Proofs.NO
/- How far nodes are, as a queue tells: what is reached. -/
namespace Go.GP
def unv:List Int→Nat
 | []=>0
 | x::r=>(if x < 0 then 1 else 0)+unv r
theorem qlD {n:Int}: ∀ {ls:List (Int × Int)} {i j:Nat} (hj:j < ls.length),ls[j].1=n→((i+j:Nat):Int)∈outs n i ls
 | x::r,i,0,_,e=>by
   have e:x.1=n:=e
   unfold outs
   rw [if_pos e]
   exact List.mem_cons_self ..
 | x::r,i,j+1,hj,e=>by
   have:=qlD (ls:=r) (i:=i+1) (j:=j) (by simpa using hj) (by simpa using e)
   unfold outs
   rw [show i+(j+1)=i+1+j by omega]
   split
   ·exact List.mem_cons_of_mem _ this
   ·exact this
structure Bq (N:Nat) (ls:List (Int × Int)) (f:Nat) (out q:List Int) (d:Nat→Prop):Prop where
 len:out.length=N
 inq: ∀x∈q,0≤x∧x < N∧0≤at' out x.toNat
 few:unv out+q.length≤f
 le:f≤N
 val: ∀v,v < N→ -1≤at' out v∧at' out v≤(N:Int) - f
 from_: ∀v,v < N→0≤at' out v→Reach ls 0 v
 done: ∀v,v < N→0≤at' out v→d v∨(v:Int)∈q
 clo: ∀v,d v→ ∀x∈ls,x.1.toNat=v→0≤at' out x.2.toNat
 start:0≤at' out 0
 pos:0 < N
structure Bi (N:Nat) (ls:List (Int × Int)) (f:Nat) (n:Int) (s:List Int × List Int) (d:Nat→Prop):Prop where
 len:s.1.length=N
 inq: ∀x∈s.2,0≤x∧x < N∧0≤at' s.1 x.toNat
 few:unv s.1+s.2.length≤f
 le:f+1≤N
 val: ∀v,v < N→ -1≤at' s.1 v∧at' s.1 v≤(N:Int) - f
 from_: ∀v,v < N→0≤at' s.1 v→Reach ls 0 v
 done: ∀v,v < N→0≤at' s.1 v→d v∨(v:Int)∈s.2∨(v:Int)=n
 clo: ∀v,d v→ ∀x∈ls,x.1.toNat=v→0≤at' s.1 x.2.toNat
 start:0≤at' s.1 0
 n0:0≤n∧n < N∧0≤at' s.1 n.toNat∧at' s.1 n.toNat≤(N:Int) - (f+1)
end Go.GP
/- How far nodes are; which graphs may be. -/
namespace Go.Proofs.NO
open Go Go.Idl Go.Proofs Go.GP Go.Proofs.Tryz
set_option maxHeartbeats 20000000
set_option maxRecDepth 100000
end Go.Proofs.NO
/- A map that counts links, each of which it has once. -/
namespace Go.GP
open Go Go.Idl
structure PairMap (P:Program) (t:TypeId):Prop where
 ex: ∃k e,tmp P t=some (k,e)∧tkey P k=some (true, [.int .i64, .int .i64])∧tag P k=some true∧(tzv P e).bind cstv=some (sci .i64 0)
variable {P:Program} {t:TypeId} {G:Nat→Option IBlk} {b:Nat} {l:List (Int × Int)} {x y:Int}
end Go.GP
namespace Go.GP
open Go Go.Idl
end Go.GP
namespace Go.GP
open Go Go.Idl
/-! ### for regions that draw their order -/
variable {a b:Int} {l:List (Int × Int)} {v:IV} {i:Nat}
end Go.GP
