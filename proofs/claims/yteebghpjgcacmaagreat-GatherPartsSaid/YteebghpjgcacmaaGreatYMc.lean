/- Which configurations may be: the program's answer. -/
import Derived.Test.YteebghpjgcacmaaGreatYMb
set_option linter.unusedSimpArgs false
set_option linter.unusedVariables false
namespace Go.Proofs.GY
open Go Go.Idl Go.Proofs Go.GP
set_option maxHeartbeats 20000000
set_option maxRecDepth 100000
def MayC (l:List (Int × Int)) (e:Int):Prop:=GP.MayP e 0 l∧0≤e∧e≤500
theorem pmay_spec (l:List (Int × Int)) (n:Int):Pure Tryz.prog 71 [lII l,sci .i64 n] (scb (tB (MayC l n))):=by
 refine pcall0 200 (fn:=Tryz.f71) Tryz.func71 rfl (by simp [Tryz.ntmps71]) zB zB fun hs=>?_
 simp only [go_sem,simprocAttr,maxLen] at hs
 obtain⟨ha, -⟩:=hs
 ((try refine zW ?_);(try with_reducible exact True.intro))
 (refine walk_trim [1,5,8,9,10] trivial zL ?_;((try refine zW ?_);(try with_reducible exact True.intro)))
 refine walk_loop 200 200 (fun s:Nat × Int=>s.1≤l.length∧(GP.MayP n s.2 (l.drop s.1)↔GP.MayP n 0 l)) (fun s=>⟨43, [(1,sci .i64 n),(5,sci .i64 s.2),(8,lII l),(9,sci .i64 l.length),(10,sci .i64 s.1)], [],0, []⟩) (fun s=>l.length - s.1) (0,0) ?_ ?_ ?_
 ·simp
 ·constructor<;>(try simp (disch:=omega) only [go_sem,simprocAttr,zD,zE,Int.natCast_zero])
 ·rintro⟨i,last⟩ ⟨h1,h2⟩
  simp only at h1 h2
  ((try refine zW ?_);(try with_reducible exact True.intro))
  by_cases hl:i < l.length
  ·have e0:l.drop i=l[i]::l.drop (i+1):=List.drop_eq_getElem_cons hl
   rw [e0] at h2
   (try simp (disch:=omega) only [go_sem,simprocAttr,zD,zE,eII])
   generalize l[i]=x at *
   obtain⟨sq,lt⟩:=x
   have bad: ¬(last < sq∧sq≤n∧0≤lt∧lt≤3)→tB (MayC l n)=false:=fun q=>tB_neg fun h=>q (h2.2 h.1).1
   by_cases g1:sq≤last
   ·have e:=bad fun q=>by omega
    (try simp (disch:=omega) only [go_sem,simprocAttr,zD,zE,g1,e])
   by_cases g2:n < sq
   ·have e:=bad fun q=>by omega
    (try simp (disch:=omega) only [go_sem,simprocAttr,zD,zE,g1,g2,e])
   by_cases g3:lt < 0
   ·have e:=bad fun q=>by omega
    (try simp (disch:=omega) only [go_sem,simprocAttr,zD,zE,g1,g2,g3,e])
   by_cases g4:4≤lt
   ·have e:=bad fun q=>by omega
    (try simp (disch:=omega) only [go_sem,simprocAttr,zD,zE,g1,g2,g3,g4,e])
   (try simp (disch:=omega) only [go_sem,simprocAttr,zD,zE,g1,g2,g3,g4])
   refine⟨(i+1,sq),⟨hl,⟨fun q=>h2.1 ⟨⟨by omega,by omega,by omega,by omega⟩,q⟩,fun q=>(h2.2 q).2⟩⟩,by simp only;omega,?_⟩
   constructor<;>((try refine zO ?_);(try with_reducible exact True.intro))
  ·obtain rfl:i=l.length:=by omega
   have hM:GP.MayP n 0 l:=h2.1 (by rw [List.drop_length];trivial)
   by_cases g1:0≤n
   ·by_cases g2:n≤500
    ·have e:tB (MayC l n)=true:=tB_pos ⟨hM,g1,g2⟩
     (try simp (disch:=omega) only [go_sem,simprocAttr,zD,zE,g1,g2,e])
    ·have e:tB (MayC l n)=false:=tB_neg fun h=>g2 h.2.2
     (try simp (disch:=omega) only [go_sem,simprocAttr,zD,zE,g1,g2,e])
   ·have e:tB (MayC l n)=false:=tB_neg fun h=>g1 h.2.1
    (try simp (disch:=omega) only [go_sem,simprocAttr,zD,zE,g1,e])
def ConfP (N:Int) (ls:List (Int × Int)) (T:List Nd) (S:List Int) (L:List (List (Int × Int))) (E:List Int):Prop:=
 TabP N ls T∧(S.length:Int)=N∧L.length=ls.length∧E.length=ls.length∧(∀(n:Nat) (s:Int),S[n]? =some s→0≤s∧ ∀x,T[n]? =some x→s < x.states.length)∧
  ∀(i:Nat) (l:List (Int × Int)),L[i]? =some l→ ∀e,E[i]? =some e→MayC l e
abbrev lCf (S:List Int) (L:List (List (Int × Int))) (E:List Int):IV:= .agg [lI S,lMs L,lI E]
theorem PRight_spec (N:Int) (ls:List (Int × Int)) (T:List Nd) (ff:Bool) (S:List Int) (L:List (List (Int × Int))) (E:List Int) (hT:SmallT T) (hls:ls.length≤1000000):
  Pure Tryz.prog 25 [.agg [sci .i64 N,lII ls, .p (.imm 2 (pr eNd T)),scb ff],lCf S L E] (scb (tB (ConfP N ls T S L E))):=by
 have bad: ∀ {q:Prop},(ConfP N ls T S L E→q)→ ¬q→tB (ConfP N ls T S L E)=false:=fun f g=>tB_neg fun h=>g (f h)
 refine pcall0 200 (fn:=Tryz.f25) Tryz.func25 rfl (by simp [Tryz.ntmps25]) zB zB fun hs=>?_
 ((try refine zW ?_);(try with_reducible exact True.intro))
 (refine at_call 200 ?_;(refine zW ?_;try with_reducible exact True.intro);refine callA_of (tabRight_spec N ls T hT) zB ?_;((try refine zW ?_);(try with_reducible exact True.intro)))
 by_cases hR:TabP N ls T
 rotate_left
 ·have eR:=tB_neg hR
  have e:=bad (fun q=>q.1) hR
  (try simp (maxSteps:=2000000) (disch:=omega) only [go_sem,simprocAttr,zD,zE,eR,e])
 have eR:=tB_pos hR
 by_cases h1:(S.length:Int)=N
 rotate_left
 ·have e:=bad (fun q=>q.2.1) h1
  (try simp (maxSteps:=2000000) (disch:=omega) only [go_sem,simprocAttr,zD,zE,eR,h1,e])
 by_cases h2:L.length=ls.length
 rotate_left
 ·have e:=bad (fun q=>q.2.2.1) h2
  have h2': ¬(L.length:Int)=ls.length:=by omega
  (try simp (maxSteps:=2000000) (disch:=omega) only [go_sem,simprocAttr,zD,zE,eR,h1,h2',e])
 by_cases h3:E.length=ls.length
 rotate_left
 ·have e:=bad (fun q=>q.2.2.2.1) h3
  have h3': ¬(E.length:Int)=ls.length:=by omega
  (try simp (maxSteps:=2000000) (disch:=omega) only [go_sem,simprocAttr,zD,zE,eR,h1,h2,h3',e])
 (try simp (maxSteps:=2000000) (disch:=omega) only [go_sem,simprocAttr,zD,zE,eR,h1,h2,h3])
 have hTl:(T.length:Int)=N:=hR.2.1
 have hN6:N≤6:=hR.1.2.1
 (refine walk_trim [2,3,45,46,47] trivial zL ?_;((try refine zW ?_);(try with_reducible exact True.intro)))
 refine walk_floop 200 200 (fun i:Nat=>i≤S.length∧ ∀(k:Nat) (s:Int),k < i→S[k]? =some s→0≤s∧ ∀x,T[k]? =some x→s < x.states.length)
  (fun i=>⟨83, [(2, .ptr 0 0 0 0),(3, .ptr 1 0 0 0),(45,lI S),(46,sci .i64 N),(47,sci .i64 i)], [],2, [(1, .arr 3 0 [[lI S,lMs L,lI E]]),(0, .arr 4 0 [[sci .i64 N,lII ls, .p (.imm 2 (pr eNd T)),scb ff]])]⟩) (fun i=>S.length - i) (0) [] ?_ ?_ ?_
 ·simp
 ·constructor<;>(try simp (maxSteps:=2000000) (disch:=omega) only [go_sem,simprocAttr,zD,zE,Int.natCast_zero,List.take_of_length_le,List.append_assoc,h1])
 ·rintro i hi
  obtain⟨hi,hinvi⟩:=hi
  ((try refine zW ?_);(try with_reducible exact True.intro))
  by_cases li:i < S.length
  ·have sn:=all_snoc (P:=fun k (s:Int)=>0≤s∧ ∀x,T[k]? =some x→s < x.states.length) li hinvi
   have bd: ¬(0≤S[i]∧ ∀x,T[i]? =some x→S[i] < x.states.length)→tB (ConfP N ls T S L E)=false:=fun q=>tB_neg fun h=>q (h.2.2.2.2.1 i _ (List.getElem?_eq_getElem li))
   have lT:i < T.length:=by omega
   have li':(i:Int) < N:=by omega
   have hq:T[i]? =some T[i]:=List.getElem?_eq_getElem lT
   generalize hx:T[i]=x at *
   generalize hs2:S[i]=s at *
   obtain⟨st,ss⟩:=x
   by_cases g1:s < 0
   ·have e:=bd fun q=>by omega
    (try simp (maxSteps:=2000000) (disch:=omega) only [go_sem,simprocAttr,zD,zE,eI,hs2,g1,e])
   by_cases g2:(ss.length:Int)≤s
   ·have e:=bd fun q=>by have:=q.2 _ hq;simp only at this;omega
    (try simp (maxSteps:=2000000) (disch:=omega) only [go_sem,simprocAttr,zD,zE,eI,hs2,g1,hx,eNd,g2,e])
   (try simp (maxSteps:=2000000) (disch:=omega) only [go_sem,simprocAttr,zD,zE,eI,hs2,g1,hx,eNd,g2])
   refine⟨i+1, [],⟨li,sn ⟨by omega,fun x hx'=>by rw [hq] at hx';cases hx';simp only;omega⟩⟩,by omega,?_⟩
   constructor<;>(try simp (maxSteps:=2000000) (disch:=omega) only [go_sem,simprocAttr,zD,zE,h1])
  ·obtain rfl:i=S.length:=by omega
   have hS:=all_end hinvi
   ((try refine zO ?_);(try with_reducible exact True.intro))
   (refine walk_trim [3,67,68,69] trivial zL ?_;((try refine zW ?_);(try with_reducible exact True.intro)))
   refine walk_floop 200 200 (fun i:Nat=>i≤L.length∧ ∀(k:Nat) (l:List (Int × Int)),k < i→L[k]? =some l→ ∀e,E[k]? =some e→MayC l e)
    (fun i=>⟨83, [(3, .ptr 1 0 0 0),(67,lMs L),(68,sci .i64 ls.length),(69,sci .i64 i)], [],2, [(1, .arr 3 0 [[lI S,lMs L,lI E]])]⟩) (fun i=>L.length - i) (0) [] ?_ ?_ ?_
   ·simp
   ·constructor<;>(try simp (maxSteps:=2000000) (disch:=omega) only [go_sem,simprocAttr,zD,zE,Int.natCast_zero,List.take_of_length_le,List.append_assoc,h2])
   ·rintro i hi
    obtain⟨hi,hinvi⟩:=hi
    ((try refine zW ?_);(try with_reducible exact True.intro))
    by_cases li:i < L.length
    ·have sn:=all_snoc (P:=fun k (l:List (Int × Int))=> ∀e,E[k]? =some e→MayC l e) li hinvi
     have lE:i < E.length:=by omega
     have li':(i:Int) < ls.length:=by omega
     have hq:E[i]? =some E[i]:=List.getElem?_eq_getElem lE
     have bd: ¬MayC L[i] E[i]→tB (ConfP N ls T S L E)=false:=fun q=>tB_neg fun h=>q (h.2.2.2.2.2 i _ (List.getElem?_eq_getElem li) _ hq)
     generalize hx:E[i]=e at *
     generalize hs2:L[i]=l at *
     (try simp (maxSteps:=2000000) (disch:=omega) only [go_sem,simprocAttr,zD,zE,eMs,hs2,eI,hx])
     (refine at_call 200 ?_;(refine zW ?_;try with_reducible exact True.intro);refine callA_of (pmay_spec l e) zB ?_;((try refine zW ?_);(try with_reducible exact True.intro)))
     by_cases g:MayC l e
     ·have eM:=tB_pos g
      (try simp (maxSteps:=2000000) (disch:=omega) only [go_sem,simprocAttr,zD,zE,eM])
      refine⟨i+1, [],⟨li,sn fun e' he=>by rw [hq] at he;cases he;exact g⟩,by omega,?_⟩
      constructor<;>(try simp (maxSteps:=2000000) (disch:=omega) only [go_sem,simprocAttr,zD,zE,h2])
     ·have eM:=tB_neg g
      have e:=bd g
      (try simp (maxSteps:=2000000) (disch:=omega) only [go_sem,simprocAttr,zD,zE,eM,e])
    ·obtain rfl:i=L.length:=by omega
     have hL:=all_end hinvi
     have e:tB (ConfP N ls T S L E)=true:=tB_pos ⟨hR,h1,h2,h3,hS,hL⟩
     have li': ¬(L.length:Int) < ls.length:=by omega
     (try simp (maxSteps:=2000000) (disch:=omega) only [go_sem,simprocAttr,zD,zE,e])
theorem Build2_spec (p:Pc):Pure Tryz.prog 65 [lPc p] (sci .i64 p.state):=by
 refine pcall0 200 (fn:=Tryz.f65) Tryz.func65 rfl (by simp [Tryz.ntmps65]) zB zB fun hs=>?_
 ((try refine zW ?_);(try with_reducible exact True.intro))
theorem Steps1_spec (p:Pc):Pure Tryz.prog 57 [lPc p] (sci .i64 p.steps):=by
 refine pcall0 200 (fn:=Tryz.f57) Tryz.func57 rfl (by simp [Tryz.ntmps57]) zB zB fun hs=>?_
 ((try refine zW ?_);(try with_reducible exact True.intro))
theorem toldI_spec (f:FuncId) (of:Pc→Int) (hx:fxk Tryz.prog f=none) (hk:fnOk Tryz.prog f=true) (hf: ∀p,Pure Tryz.prog f [lPc p] (sci .i64 (of p))) (l:List Pc) (hl:l.length≤1000000):
  Pure Tryz.prog 56 [lPs l, .p (.sc (.func (.func f) #[] #[]))] (lI (l.map of)):=by
 refine pcall0 200 (fn:=Tryz.f56) Tryz.func56 rfl (by simp [Tryz.ntmps56]) zB zB fun hs=>?_
 ((try refine zW ?_);(try with_reducible exact True.intro))
 refine walk_own 5 1 trivial rfl (.inr rfl) ?_
 obtain⟨X,hX⟩: ∃X:List Int,X=l.map of:=⟨_,rfl⟩
 have hXl:X.length=l.length:=by rw [hX,List.length_map]
 have hXs: ∀(i:Nat) (li:i < l.length),X.take (i+1)=X.take i++ [of l[i]]:=fun i li=>by
  rw [hX,List.take_succ_eq_append_getElem (by rw [List.length_map];exact li),List.getElem_map]
 rw [←hX]
 clear hX
 (refine walk_trim [1,5,8,9,10] trivial zL ?_;((try refine zW ?_);(try with_reducible exact True.intro)))
 refine walk_floop 200 200 (fun i:Nat=>i≤l.length)
  (fun i=>⟨22, [(1, .p (.sc (.func (.func f) #[] #[]))),(5, .ref 0 i 0 i),(8,lPs l),(9,sci .i64 l.length),(10,sci .i64 i)], [],1, [(0, .arr 1 i (ir eI (X.take i)))]⟩) (fun i=>l.length - i) (0) [] ?_ ?_ ?_
 ·simp
 ·constructor<;>(try simp (disch:=omega) only [go_sem,simprocAttr,zD,zE,Int.natCast_zero,List.take_of_length_le,List.append_assoc,List.take_zero])
 ·rintro i hi
  ((try refine zW ?_);(try with_reducible exact True.intro))
  by_cases li:i < l.length
  ·have hpt:=hXs i li
   have htt:(X.take i).length=i:=by rw [List.length_take];omega
   have hti:(X.take i).take i=X.take i:=by rw [List.take_take,Nat.min_self]
   generalize hp:l[i]=p at *
   (try simp (disch:=omega) only [go_sem,simprocAttr,zD,zE,ePc,hp,hx])
   refine at_call 200 ?_
   (try simp only [go_sem,simprocAttr,hk])
   refine callA_of (hf p) trivial ?_
   ((try refine zW ?_);(try with_reducible exact True.intro))
   have hmm:min i (min i X.length)=i:=by omega
   (try simp (disch:=omega) only [go_sem,simprocAttr,zD,zE,hmm])
   refine⟨i+1, [],li,by omega,?_⟩
   constructor
   case blks=>
    (try simp (disch:=omega) only [go_sem,simprocAttr,zD,zE,hmm,hpt,hti,ir_snoc])
    exact⟨trivial,trivial⟩
   all_goals(try simp (disch:=omega) only [go_sem,simprocAttr,zD,zE,hmm])
  ·obtain rfl:i=l.length:=by omega
   have e:X.take l.length=X:=List.take_of_length_le (by omega)
   (try simp (disch:=omega) only [go_sem,simprocAttr,zD,zE,e])
theorem Steps_spec (l:List Pc) (hl:l.length≤1000000):Pure Tryz.prog 17 [lPs l] (lI (l.map (·.steps))):=by
 refine pcall0 200 (fn:=Tryz.f17) Tryz.func17 rfl (by simp [Tryz.ntmps17]) zB zB fun hs=>?_
 ((try refine zW ?_);(try with_reducible exact True.intro))
 (refine at_call 200 ?_;(refine zW ?_;try with_reducible exact True.intro);refine callA_of (toldI_spec _ _ (by simp only [go_sem]) (by simp only [go_sem]) Steps1_spec l hl) zB ?_;((try refine zW ?_);(try with_reducible exact True.intro)))
end Go.Proofs.GY
