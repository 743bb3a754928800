/- Facts that the proofs of this claim lean on. -/
import Derived.Test.YtfhhdgkhajkapaaGreatNnD
import Derived.Test.YtfhhdgkhajkapaaGreatNzTk
import Derived.Test.YtfhhdgkhajkapaaGreatNzP3
set_option linter.unusedSimpArgs false
set_option linter.unusedVariables false
/- A delivery of the plain system: its walk. -/
namespace Go.Proofs.NO
open Go Go.Idl Go.Proofs Go.GP
set_option maxHeartbeats 20000000
set_option maxRecDepth 100000
abbrev bSp (s:Sp):IBlk:= .arr 5 0 [[sci .i64 s.kind,sci .i64 s.node,sci .i64 s.k,sci .i64 s.link,sci .i64 s.seq]]
theorem qmW (s:Sp) (x:Int × Int):PG Tryz.prog 174 [.agg [sci .i64 x.1,sci .i64 x.2], .ptr 0 0 0 0] [bSp s] 0 (scb (x.1==s.seq)) [(0,bSp s)]:=by
 obtain⟨kind,node,k,link,seq⟩:=s
 refine qba 200 (fn:=Tryz.f174) Tryz.func174 rfl (by simp [Tryz.ntmps174]) 1 rfl zC zC zC zC zC fun hs=>?_
 ((try refine zW ?_);(try with_reducible exact True.intro))
theorem qkJ (s:Sp) (l:List (Int × Int)):PG Tryz.prog 173 [lII l, .clo (.func 174) [] [.ptr 0 0 0 0]] [bSp s] 0 (sci .i64 (idxM s.seq 0 l)) [(0,bSp s)]:=by
 obtain⟨kind,node,k,link,seq⟩:=s
 have h1:=qmW ⟨kind,node,k,link,seq⟩
 simp only at h1 ⊢
 refine qba 200 (fn:=Tryz.f173) Tryz.func173 rfl (by simp [Tryz.ntmps173]) 1 rfl zC zC zC zC zC fun hs=>?_
 simp only [go_sem,simprocAttr,maxLen] at hs
 try refine zW ?_
 (refine walk_trim [0,1,7,8] trivial zL ?_;((try refine zW ?_);(try with_reducible exact True.intro)))
 refine qal 200 200 (fun i:Nat=>i≤l.length∧idxM seq 0 l=idxM seq i (l.drop i))
  (fun i=>⟨19, [(0,lII l),(1, .clo (.func 174) [] [.ptr 0 0 0 0]),(7,sci .i64 l.length),(8,sci .i64 i)], [],1, [(0, .arr 5 0 [[sci .i64 kind,sci .i64 node,sci .i64 k,sci .i64 link,sci .i64 seq]])]⟩) (fun i=>l.length - i) (0) [] ?_ ?_ ?_
 ·simp
 ·constructor<;>(try simp (disch:=omega) only [go_sem,simprocAttr,zD,zE,Int.natCast_zero,List.take_of_length_le,List.append_assoc])
 ·rintro i hi
  obtain⟨hi,hinvi⟩:=hi
  try refine zW ?_
  by_cases li:i < l.length
  ·rw [List.drop_eq_getElem_cons li,idxM] at hinvi
   generalize hp:l[i]=p at *
   obtain⟨a,c⟩:=p
   simp only at hinvi
   (try simp (disch:=omega) only [go_sem,simprocAttr,zD,zE,eII,hp])
   (refine at_g 200 ?_;refine zW ?_;refine qaB [0] (h1 (a,c)) zU ?_;((try refine zW ?_);(try with_reducible exact True.intro)))
   by_cases hk:a=seq
   ·rw [if_pos hk] at hinvi
    have hk':(a==seq)=true:=beq_iff_eq.2 hk
    (try simp (disch:=omega) only [go_sem,simprocAttr,zD,zE,hk',hinvi])
   ·rw [if_neg hk] at hinvi
    have hk':(a==seq)=false:=beq_eq_false_iff_ne.2 hk
    (try simp (disch:=omega) only [go_sem,simprocAttr,zD,zE,hk'])
    refine⟨i+1, [],⟨li,hinvi⟩,by omega,?_⟩
    constructor<;>((try refine zO ?_);(try with_reducible exact True.intro))
  ·obtain rfl:i=l.length:=by omega
   rw [List.drop_length,idxM] at hinvi
   (try simp (disch:=omega) only [go_sem,simprocAttr,zD,zE,hinvi])
theorem qjR {G:Nat→Option IBlk} {ids:List Nat} {rs:List (List IV)} {i:Nat} {r r':List IV} (h:fws G ids r r'):fwRs G ids (rs.set i r) (rs.set i r'):=by
 refine .inr ⟨by simp,fun k a b ha hb=>?_⟩
 rw [List.getElem?_set] at ha hb
 by_cases e:i=k
 ·subst e
  rw [if_pos rfl] at ha hb
  split at ha
  ·rename_i c
   rw [if_pos c] at hb
   cases ha;cases hb;exact h
  ·cases ha
 ·rw [if_neg e] at ha hb
  rw [ha] at hb
  cases hb
  exact fws_self a
theorem rowsAt_as {L:List (List (Int × Int))} {l b k:Nat} (h:l < L.length):qag L l b k L.length=(ir eMs L).set l [.ref b 0 0 k]:=by
 unfold qag
 have hl:(ir eMs L).length=L.length:=by simp [ir]
 rw [List.take_of_length_le (Nat.le_refl _),List.set_eq_take_append_cons_drop,if_pos (by omega)]
 simp [ir]
theorem qkq (L:List (List (Int × Int))) (i0 k n:Nat):rnRw (ridx [] 4) (qag L i0 3 k n)=qag L i0 7 k n:=by
 unfold qag
 simp only [go_sem]
def qjc (fifo:Bool) (ls:List (Int × Int)) (st:St) (c:Cf) (l:Nat) (seq:Int) (b:Nat):Cf × Int:=
 let m:=(c.L[l]?).getD []
 let i:=idxM seq 0 m
 if i < 0∨fifo=true∧0 < i then(zCf0,3)
 else(⟨c.S.set b (qbC ((ls[l]?).getD (0,0)).1 ((m[i.toNat]?).getD (0,0)).2 ((c.S[b]?).getD 0) st.takes),c.L.set l (m.take i.toNat++m.drop (i.toNat+1)),c.E⟩,0)
theorem qkZ (N:Int) (ls:List (Int × Int)) (T:List Nd) (ff:Bool) (c:Cf) (s:Sp) (hs0:s.link < 0∨(ls.length:Int)≤s.link):
  Pure Tryz.prog 92 [.agg [sci .i64 N,lII ls, .p (.imm 2 (pr eNd T)),scb ff],lC c,lSp s] (lApd (zCf0,1)):=by
 obtain⟨kind,node,k,link,seq⟩:=s
 simp only at hs0
 refine qah 200 (fn:=Tryz.f92) Tryz.func92 rfl (by simp [Tryz.ntmps92]) zB zB fun hs=>?_
 try refine zW ?_
 by_cases h:link < 0
 ·(try simp (disch:=omega) only [go_sem,simprocAttr,zD,zE,h,zCf0])
 ·have h2:(ls.length:Int)≤link:=by omega
  (try simp (disch:=omega) only [go_sem,simprocAttr,zD,zE,h,h2,zCf0])
theorem idxM_ge {q:Int}: ∀ {l:List (Int × Int)} {s:Nat},idxM q s l= -1∨ ∃i:Nat,i < l.length∧idxM q s l=((s+i:Nat):Int)
 | [],s=> .inl rfl
 | x::r,s=>by
   rw [idxM]
   split
   ·exact .inr ⟨0,by simp,rfl⟩
   ·rcases idxM_ge (q:=q) (l:=r) (s:=s+1) with e | ⟨i,hi,e⟩
    ·exact .inl e
    ·exact .inr ⟨i+1,by simpa using hi,by rw [e];congr 1;omega⟩
theorem qjN (N:Int) (ls:List (Int × Int)) (T:List Nd) (ff:Bool) (c:Cf) (s:Sp) (l a b j:Nat) (x:Nd) (st:St) (hl:s.link=l) (hx:ls[l]? =some ((a:Int),(b:Int))) (hj:c.S[b]? =some (j:Int)) (hT:T[b]? =some x) (hq:x.states[j]? =some st)
  (hls:ls.length≤1000) (hL:c.L.length=ls.length) (hE:c.E.length≤1000000) (hS:c.S.length≤1000000) (hg: ∀m∈c.L,m.length≤1000000) (ht:st.takes.length≤1000000):
  Pure Tryz.prog 92 [.agg [sci .i64 N,lII ls, .p (.imm 2 (pr eNd T)),scb ff],lC c,lSp s] (lApd (qjc ff ls st c l s.seq b)):=by
 obtain⟨kind,node,k,link,seq⟩:=s
 obtain⟨S,L,E⟩:=c
 simp only at hl hj hL hE hS hg ⊢
 subst hl
 have ll:l < ls.length:=qab hx
 have lL:l < L.length:=by omega
 have lb:b < S.length:=qab hj
 have hx':ls[l]=((a:Int),(b:Int)):=by rw [List.getElem?_eq_getElem ll] at hx;exact Option.some.inj hx
 have hSb:S[b]=(j:Int):=by rw [List.getElem?_eq_getElem lb] at hj;exact Option.some.inj hj
 have hgm:=hg _ (List.getElem_mem lL)
 have hln: ¬(l:Int) < 0:=by omega
 have hll: ¬(ls.length:Int)≤(l:Int):=by omega
 have hI:=qkJ ⟨kind,node,k,l,seq⟩ L[l]
 have hO:=qpu S L E l lL hS (by omega) hE hg
 generalize hm:L[l]=m at *
 have hmg:L[l]? =some m:=by rw [List.getElem?_eq_getElem lL,hm]
 generalize hres:qjc ff ls st ⟨S,L,E⟩ l seq b=res
 simp only [qjc,hmg,hx,hj,Option.getD_some] at hres
 refine qah 200 (fn:=Tryz.f92) Tryz.func92 rfl (by simp [Tryz.ntmps92]) zB zB fun hs=>?_
 ((try refine zW ?_);(try with_reducible exact True.intro))
 (try simp (maxSteps:=2000000) (disch:=omega) only [go_sem,simprocAttr,zD,zE,hln,hll,eMs,hm])
 (refine at_g 200 ?_;refine zW ?_;refine qaB [2] (hI) zU ?_;((try refine zW ?_);(try with_reducible exact True.intro)))
 rcases idxM_ge (q:=seq) (l:=m) (s:=0) with e | ⟨i,hi,e⟩
 ·rw [e,if_pos (.inl (by omega))] at hres
  subst hres
  (try simp (maxSteps:=2000000) (disch:=omega) only [go_sem,simprocAttr,zD,zE,e,zCf0])
 ·rw [Nat.zero_add] at e
  rw [e] at hres
  by_cases hf:ff=true∧0 < i
  ·rw [if_pos (.inr ⟨hf.1,by omega⟩)] at hres
   subst hres
   have h0: ¬(i:Int) < 0:=by omega
   have h1:0 < (i:Int):=by omega
   have h2:=hf.1
   subst h2
   (try simp (maxSteps:=2000000) (disch:=omega) only [go_sem,simprocAttr,zD,zE,e,h0,h1,zCf0])
  ·rw [if_neg (by rintro(h | h);omega;exact hf ⟨h.1,by omega⟩),Int.toNat_natCast] at hres
   have h0: ¬(i:Int) < 0:=by omega
   have hgo:ff=true→ ¬0 < (i:Int):=fun h q=>hf ⟨h,by omega⟩
   have hmi:m[i]? =some m[i]:=List.getElem?_eq_getElem hi
   rw [hmi,Option.getD_some] at hres
   generalize hmz:m[i]=z at *
   obtain⟨z1,z2⟩:=z
   simp only at hres
   have hgb:(if ff=true then some (scb (decide (0 < (i:Int)))) else some (scb false))=some (scb false):=by
    cases ff
    ·rfl
    ·simp only [if_true];rw [decide_eq_false (hgo rfl)]
   cases ff
   ·(try simp (maxSteps:=2000000) (disch:=omega) only [go_sem,simprocAttr,zD,zE,e,h0])
    (refine walk_trim [3,4,5,6,8,40] trivial zL ?_;((try refine zW ?_);(try with_reducible exact True.intro)))
    (refine walk_trim [3,4,5,6,8,40] trivial zL ?_;refine zW ?_;refine irun_walk (id:=6) (n:=200) [none,none,none,none,none,none,none,none,none,none,none,none,none,none,none,none,none,none] qan (by kernel_rfl) ?_)
    (try simp (maxSteps:=2000000) (disch:=omega) only [go_sem,simprocAttr,zD,zE,eII,hx'])
    (refine at_g 200 ?_;refine zW ?_;refine qaB [] (hO) zU ?_;((try refine zW ?_);(try with_reducible exact True.intro)))
    try refine zO ?_
    (refine walk_trim [3,4,5,6,8,9,10,11,40] trivial zL ?_;refine zW ?_;refine irun_walk (id:=8) (n:=200) [none,none,none,none,none,none,none,none,none,none,none,none,none,none,none,none,none,none,none,none,none,none,some [0,1,2],none,some []] qan (by kernel_rfl) ?_)
    (try simp (maxSteps:=2000000) (disch:=omega) only [go_sem,simprocAttr,zD,zE,eI,eMs,eII,hm,hmz,hSb])
    (refine at_dcall ?_;refine zW ?_;refine callA_of (qeq T b j x st hT hq a z2 ht) zB ?_;((try refine zW ?_);(try with_reducible exact True.intro)))
    obtain⟨tk,htk⟩: ∃tk,tk=qbC a z2 j st.takes:=⟨_,rfl⟩
    rw [←htk] at hres ⊢
    have heI: ∀x:Int,List.map IV.p (eI x)= [.p (.sc (.int .i64 x))]:=fun _=>rfl
    have hsetS:(ir eI S).set b [IV.p (.sc (.int .i64 tk))]=ir eI (S.set b tk):=by simp only [ir,List.map_set];rfl
    have hrl:(qag L l 7 m.length L.length).length=L.length:=by rw [rowsAt_as lL];simp [ir]
    have hget:(qag L l 7 m.length L.length)[l]? =some [.ref 7 0 0 m.length]:=qeL lL
    have hset:(qag L l 7 m.length L.length).set l [.ref 7 0 0 (m.length - 1)]=qag L l 7 (m.length - 1) L.length:=by rw [rowsAt_as lL,rowsAt_as lL,List.set_set]
    (try simp (maxSteps:=2000000) (disch:=omega) only [go_sem,simprocAttr,zD,zE,heI,List.drop_succ_cons,List.drop_nil,List.drop_zero,List.length_cons,List.length_nil,hsetS])
    (refine walk_trim [5,6,8,11,40] trivial zL ?_;((try refine zW ?_);(try with_reducible exact True.intro)))
    refine irun_walk (id:=9) (n:=0) [none,none,none,none,none,none,none,none,none,none,none,none,none,some [0,1,2,3],none,some []] qan (by kernel_rfl) ?_
    (try simp (maxSteps:=2000000) (disch:=omega) only [go_sem,simprocAttr,zD,zE,qkq,hget])
    (refine qes ?_;refine zW ?_;refine qaB [7] (qf9 m 0 i hi hgm) zU ?_;((try refine zW ?_);(try with_reducible exact True.intro)))
    (try simp (maxSteps:=2000000) (disch:=omega) only [go_sem,simprocAttr,zD,zE,hset,hget])
    rw [qem]
    obtain⟨R,hR⟩: ∃R,R=m.take i++m.drop (i+1):=⟨_,rfl⟩
    have hRl:R.length=m.length - 1:=by rw [hR,List.length_append,List.length_take,List.length_drop];omega
    rw [←hR] at hres ⊢
    have hs2:ir eMs (L.set l R)=(ir eMs L).set l [.p (.imm 2 (pr eII R))]:=by simp only [ir,List.map_set];rfl
    have hRt:(R++ [(0,0)]).take (m.length - 1)=R:=by rw [←hRl,List.take_left]
    rw [rowsAt_as lL,rowsAt_as lL]
    refine qc8 200 [7] ⟨102, [(5, .ptr 2 0 0 0),(6, .ptr 3 0 0 0),(11, .ptr 8 0 0 0)], [],9,
     [(5, .arr 1 0 (ir eMs (L.set l R))),(4, .arr 1 0 (ir eI (S.set b tk))),(8, .arr 3 0 [[.ref 4 0 0 S.length, .ref 5 0 0 L.length, .ref 6 0 0 E.length]]),(6, .arr 1 0 (ir eI E)),(3, .arr 3 0 [[nil0,nil0,nil0]])]⟩ trivial ?_ ?_
    ·constructor
     case blks=>
      rw [hs2]
      try refine zW ?_
      refine qjR ?_
      (try simp (maxSteps:=2000000) only [go_sem,simprocAttr,hRt])
     all_goals((try refine zW ?_);(try with_reducible exact True.intro))
    have htS:(S.set b tk).take S.length=S.set b tk:=List.take_of_length_le (by rw [List.length_set];omega)
    have htL:(L.set l R).take L.length=L.set l R:=List.take_of_length_le (by rw [List.length_set];omega)
    subst hres
    (try simp (maxSteps:=2000000) (disch:=omega) only [go_sem,simprocAttr,zD,zE,htS,htL,List.take_length])
    trace_state
   ·have h1:=hgo rfl
    (try simp (maxSteps:=2000000) (disch:=omega) only [go_sem,simprocAttr,zD,zE,e,h0,h1])
    (refine walk_trim [3,4,5,6,8,40] trivial zL ?_;((try refine zW ?_);(try with_reducible exact True.intro)))
    (refine walk_trim [3,4,5,6,8,40] trivial zL ?_;refine zW ?_;refine irun_walk (id:=6) (n:=200) [none,none,none,none,none,none,none,none,none,none,none,none,none,none,none,none,none,none] qan (by kernel_rfl) ?_)
    (try simp (maxSteps:=2000000) (disch:=omega) only [go_sem,simprocAttr,zD,zE,eII,hx'])
    (refine at_g 200 ?_;refine zW ?_;refine qaB [] (hO) zU ?_;((try refine zW ?_);(try with_reducible exact True.intro)))
    try refine zO ?_
    (refine walk_trim [3,4,5,6,8,9,10,11,40] trivial zL ?_;refine zW ?_;refine irun_walk (id:=8) (n:=200) [none,none,none,none,none,none,none,none,none,none,none,none,none,none,none,none,none,none,none,none,none,none,some [0,1,2],none,some []] qan (by kernel_rfl) ?_)
    (try simp (maxSteps:=2000000) (disch:=omega) only [go_sem,simprocAttr,zD,zE,eI,eMs,eII,hm,hmz,hSb])
    (refine at_dcall ?_;refine zW ?_;refine callA_of (qeq T b j x st hT hq a z2 ht) zB ?_;((try refine zW ?_);(try with_reducible exact True.intro)))
    obtain⟨tk,htk⟩: ∃tk,tk=qbC a z2 j st.takes:=⟨_,rfl⟩
    rw [←htk] at hres ⊢
    have heI: ∀x:Int,List.map IV.p (eI x)= [.p (.sc (.int .i64 x))]:=fun _=>rfl
    have hsetS:(ir eI S).set b [IV.p (.sc (.int .i64 tk))]=ir eI (S.set b tk):=by simp only [ir,List.map_set];rfl
    have hrl:(qag L l 7 m.length L.length).length=L.length:=by rw [rowsAt_as lL];simp [ir]
    have hget:(qag L l 7 m.length L.length)[l]? =some [.ref 7 0 0 m.length]:=qeL lL
    have hset:(qag L l 7 m.length L.length).set l [.ref 7 0 0 (m.length - 1)]=qag L l 7 (m.length - 1) L.length:=by rw [rowsAt_as lL,rowsAt_as lL,List.set_set]
    (try simp (maxSteps:=2000000) (disch:=omega) only [go_sem,simprocAttr,zD,zE,heI,List.drop_succ_cons,List.drop_nil,List.drop_zero,List.length_cons,List.length_nil,hsetS])
    (refine walk_trim [5,6,8,11,40] trivial zL ?_;((try refine zW ?_);(try with_reducible exact True.intro)))
    refine irun_walk (id:=9) (n:=0) [none,none,none,none,none,none,none,none,none,none,none,none,none,some [0,1,2,3],none,some []] qan (by kernel_rfl) ?_
    (try simp (maxSteps:=2000000) (disch:=omega) only [go_sem,simprocAttr,zD,zE,qkq,hget])
    (refine qes ?_;refine zW ?_;refine qaB [7] (qf9 m 0 i hi hgm) zU ?_;((try refine zW ?_);(try with_reducible exact True.intro)))
    (try simp (maxSteps:=2000000) (disch:=omega) only [go_sem,simprocAttr,zD,zE,hset,hget])
    rw [qem]
    obtain⟨R,hR⟩: ∃R,R=m.take i++m.drop (i+1):=⟨_,rfl⟩
    have hRl:R.length=m.length - 1:=by rw [hR,List.length_append,List.length_take,List.length_drop];omega
    rw [←hR] at hres ⊢
    have hs2:ir eMs (L.set l R)=(ir eMs L).set l [.p (.imm 2 (pr eII R))]:=by simp only [ir,List.map_set];rfl
    have hRt:(R++ [(0,0)]).take (m.length - 1)=R:=by rw [←hRl,List.take_left]
    rw [rowsAt_as lL,rowsAt_as lL]
    refine qc8 200 [7] ⟨102, [(5, .ptr 2 0 0 0),(6, .ptr 3 0 0 0),(11, .ptr 8 0 0 0)], [],9,
     [(5, .arr 1 0 (ir eMs (L.set l R))),(4, .arr 1 0 (ir eI (S.set b tk))),(8, .arr 3 0 [[.ref 4 0 0 S.length, .ref 5 0 0 L.length, .ref 6 0 0 E.length]]),(6, .arr 1 0 (ir eI E)),(3, .arr 3 0 [[nil0,nil0,nil0]])]⟩ trivial ?_ ?_
    ·constructor
     case blks=>
      rw [hs2]
      try refine zW ?_
      refine qjR ?_
      (try simp (maxSteps:=2000000) only [go_sem,simprocAttr,hRt])
     all_goals((try refine zW ?_);(try with_reducible exact True.intro))
    have htS:(S.set b tk).take S.length=S.set b tk:=List.take_of_length_le (by rw [List.length_set];omega)
    have htL:(L.set l R).take L.length=L.set l R:=List.take_of_length_le (by rw [List.length_set];omega)
    subst hres
    (try simp (maxSteps:=2000000) (disch:=omega) only [go_sem,simprocAttr,zD,zE,htS,htL,List.take_length])
    trace_state
abbrev lAp (N:Int) (ls:List (Int × Int)) (T:List Nd) (ff:Bool):IV:= .agg [sci .i64 N,lII ls, .p (.imm 2 (pr eNd T)),scb ff]
abbrev fnPick:FuncId:=91
abbrev fnDlv:FuncId:=92
theorem tz80:(tzv Tryz.prog 52).bind cstv=some (.p (.sc .nilFunc)):=by kernel_rfl
theorem qiv (N:Int) (ls:List (Int × Int)) (T:List Nd) (ff:Bool) (c:Cf) (s:Sp) (h0:s.kind≠0) (h1:s.kind≠1):
  Pure Tryz.prog 23 [lAp N ls T ff,lC c,lSp s] (lApd (zCf0,1)):=by
 obtain⟨kind,node,k,link,seq⟩:=s
 simp only at h0 h1
 have e0:(kind==0)=false:=beq_eq_false_iff_ne.2 h0
 have e1:(kind==1)=false:=beq_eq_false_iff_ne.2 h1
 refine qah 200 (fn:=Tryz.f23) Tryz.func23 rfl (by simp [Tryz.ntmps23]) zB zB fun hs=>?_
 (try simp (maxSteps:=2000000) only [go_sem,simprocAttr,fmkmap,qbZ,qcd,mlook,ikey,qdj,kok,sleq,leq,Value.cells,List.size_toArray])
 (try simp (maxSteps:=2000000) (disch:=omega) only [go_sem,simprocAttr,zD,zE,tz80,e0,e1,zCf0,fmkmap,qbZ,qcd,mlook,ikey,qdj,kok,sleq,leq,Value.cells,List.size_toArray])
theorem qd0 (N:Int) (ls:List (Int × Int)) (T:List Nd) (ff:Bool) (c:Cf) (s:Sp) (r:Cf × Int) (h0:s.kind=0) (h:Pure Tryz.prog fnPick [lAp N ls T ff,lC c,lSp s] (lApd r)):
  Pure Tryz.prog 23 [lAp N ls T ff,lC c,lSp s] (lApd r):=by
 obtain⟨kind,node,k,link,seq⟩:=s
 simp only at h0
 subst h0
 refine qah 200 (fn:=Tryz.f23) Tryz.func23 rfl (by simp [Tryz.ntmps23]) zB zB fun hs=>?_
 (try simp (maxSteps:=2000000) only [go_sem,simprocAttr,fmkmap,qbZ,qcd,mlook,ikey,qdj,kok,sleq,leq,Value.cells,List.size_toArray])
 (refine qaf 200 ?_;refine zW ?_;refine callA_of (h) zB ?_;((try refine zW ?_);(try with_reducible exact True.intro)))
theorem qeM (N:Int) (ls:List (Int × Int)) (T:List Nd) (ff:Bool) (c:Cf) (s:Sp) (r:Cf × Int) (h0:s.kind=1) (h:Pure Tryz.prog fnDlv [lAp N ls T ff,lC c,lSp s] (lApd r)):
  Pure Tryz.prog 23 [lAp N ls T ff,lC c,lSp s] (lApd r):=by
 obtain⟨kind,node,k,link,seq⟩:=s
 simp only at h0
 subst h0
 refine qah 200 (fn:=Tryz.f23) Tryz.func23 rfl (by simp [Tryz.ntmps23]) zB zB fun hs=>?_
 (try simp (maxSteps:=2000000) only [go_sem,simprocAttr,fmkmap,qbZ,qcd,mlook,ikey,qdj,kok,sleq,leq,Value.cells,List.size_toArray])
 (refine qaf 200 ?_;refine zW ?_;refine callA_of (h) zB ?_;((try refine zW ?_);(try with_reducible exact True.intro)))
def startC (ls:List (Int × Int)) (T:List Nd):Cf:=⟨T.map (·.start),List.replicate ls.length [],List.replicate ls.length 0⟩
theorem qnz {M:Mem} {v:Value} {S E:List Int} {Z:List Unit} (h:VRel M (.agg [lI S, .p (.imm 1 (pr eZ Z)),lI E]) v):VRel M (lCf S (List.replicate Z.length []) E) v:=by
 have e1:pr eMs (List.replicate Z.length [])=List.replicate Z.length [.imm 2 []]:=by simp [pr,eMs]
 cases h with
 | agg cs vs hl h1 r=>
   show VRel M (.agg [lI S, .p (.imm 1 (pr eMs (List.replicate Z.length []))),lI E]) _
   rw [e1]
   refine .agg _ vs (by simpa using hl) h1 fun i x w hx hw=>?_
   match i,hx with
   | 0,hx=>exact r 0 x w hx hw
   | 1,hx=>
     simp at hx
     subst hx
     have:=r 1 _ w rfl hw
     cases this with
     | p _ _ h=>exact .p _ _ (qfw h)
   | 2,hx=>exact r 2 x w hx hw
   | i+3,hx=>simp at hx
theorem qlX (N:Int) (ls:List (Int × Int)) (T:List Nd) (ff:Bool) (hl:ls.length≤1000000) (hT:T.length≤1000000):Pure Tryz.prog 19 [lAp N ls T ff] (lC (startC ls T)):=by
 have hz:Pure Tryz.prog 19 [lAp N ls T ff] (.agg [lI (T.map (·.start)), .p (.imm 1 (pr eZ (List.replicate ls.length ()))),lI (List.replicate ls.length 0)]):=by
  rw [qkl]
  obtain⟨X,hX⟩: ∃X:List Int,X=T.map (·.start):=⟨_,rfl⟩
  have hXl:X.length=T.length:=by rw [hX,List.length_map]
  have hXs: ∀(i:Nat) (li:i < T.length),X.take (i+1)=X.take i++ [T[i].start]:=fun i li=>by
   rw [hX,List.take_succ_eq_append_getElem (by rw [List.length_map];exact li),List.getElem_map]
  rw [←hX]
  clear hX
  refine qah 200 (fn:=Tryz.f19) Tryz.func19 rfl (by simp [Tryz.ntmps19]) zB zB fun hs=>?_
  try refine zW ?_
  (refine walk_trim [1,2,40] trivial zL ?_;refine zW ?_;refine irun_walk (id:=1) (n:=200) [none,none,none,none,some [5,6,7,8,9,11],none,none,none,none,some [0,1,2,3,4,11],none,some [0,1,2,3,4,5,6,7,8,9,10],some []] qan (by kernel_rfl) ?_)
  try refine zO ?_
  refine walk_ownB 4 0 0 1 trivial rfl rfl rfl (.inr rfl) ?_
  simp only [List.set_cons_zero,List.set_cons_succ,Nat.reduceAdd]
  have hrep:List.replicate ls.length [IV.p (.sc (.int .i64 0))]=ir eI (List.replicate ls.length 0):=by simp [ir,eI]
  (refine walk_trim [2,3,18,19,20,40] trivial zL ?_;((try refine zW ?_);(try with_reducible exact True.intro)))
  refine qal 200 200 (fun i:Nat × Nat=>i.1≤T.length)
   (fun i=>⟨33, [(2, .ptr 1 0 0 0),(3, .ptr 4 0 0 0),(18, .p (.imm 2 (pr eNd T))),(19,sci .i64 T.length),(20,sci .i64 i.1)], [],6, [(5, .arr 1 i.2 (ir eI (X.take i.1))),(4, .arr 3 0 [[.ref 5 i.2 0 i.1, .ref 2 0 0 ls.length, .ref 3 0 0 ls.length]]),(3, .arr 1 0 (ir eI (List.replicate ls.length 0))),(2, .arr 1 0 (List.replicate ls.length [nil0])),(1, .arr 3 0 [[nil0,nil0,nil0]])]⟩) (fun i=>T.length - i.1) (0,0) [] ?_ ?_ ?_
  ·simp
  ·constructor<;>(try simp (maxSteps:=2000000) (disch:=omega) only [go_sem,simprocAttr,zD,zE,Int.natCast_zero,List.take_of_length_le,List.append_assoc,List.take_zero,hrep])
  ·rintro⟨i,g⟩ hi
   simp only at hi
   try refine zW ?_
   by_cases li:i < T.length
   ·have hpt:=hXs i li
    have htt:(X.take i).length=i:=by rw [List.length_take];omega
    have hmm:min i (min i X.length)=i:=by omega
    have hti:(X.take i).take i=X.take i:=by rw [List.take_take,Nat.min_self]
    generalize hp:T[i]=p at *
    obtain⟨st,ss⟩:=p
    (try simp (maxSteps:=2000000) (disch:=omega) only [go_sem,simprocAttr,zD,zE,eNd,hp,hmm])
    refine⟨(i+1,g+1), [],li,by simp only;omega,?_⟩
    constructor
    case blks=>
     (try simp (maxSteps:=2000000) (disch:=omega) only [go_sem,simprocAttr,zD,zE,hmm,hpt,hti,ir_snoc])
     exact⟨⟨trivial,trivial⟩,qlb⟩
    all_goals(try simp (maxSteps:=2000000) (disch:=omega) only [go_sem,simprocAttr,zD,zE,hmm])
   ·obtain rfl:i=T.length:=by omega
    have e:X.take T.length=X:=List.take_of_length_le (by omega)
    (try simp (maxSteps:=2000000) (disch:=omega) only [go_sem,simprocAttr,zD,zE,e,qdB])
    rw [List.take_of_length_le (by simp)]
 refine qhh (fun M v h=>?_) hz
 have:=qnz h
 rw [List.length_replicate] at this
 exact this
end Go.Proofs.NO
