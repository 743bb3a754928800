/- Facts that the proofs of this claim lean on. -/
import Derived.Test.YtfhhdgkhajkapaaGreatNS
set_option linter.unusedSimpArgs false
set_option linter.unusedVariables false
/- The document on graphs: links. -/
namespace Go.Proofs.NO
open Go Go.Idl Go.Proofs Go.GP
set_option maxHeartbeats 20000000
set_option maxRecDepth 100000
theorem qbX (N a b:Int) (ls:List (Int × Int)) (hl:ls.length≤1000000):Pure Tryz.prog 103 [eG N ls,sci .i64 a,sci .i64 b] (sci .i64 (qat a b 0 ls)):=by
 refine qah 200 (fn:=Tryz.f103) Tryz.func103 rfl (by simp [Tryz.ntmps103]) zB zB fun hs=>?_
 try refine zW ?_
 refine qa0 200 200 (fun i:Nat=>i≤ls.length∧qat a b i (ls.drop i)=qat a b 0 ls)
  (fun i=>⟨34, [(1,sci .i64 a),(2,sci .i64 b),(3, .ptr 0 0 0 0),(7,sci .i64 i)], [],1, [(0, .arr 2 0 [[sci .i64 N,lII ls]])]⟩) (fun i=>ls.length - i) 0 ?_ ?_ ?_
 ·simp
 ·constructor<;>(try simp (disch:=omega) only [go_sem,simprocAttr,zD,zE,Int.natCast_zero])
 ·rintro i ⟨h1,h2⟩
  try refine zW ?_
  by_cases hi:i < ls.length
  ·rw [qbI hi] at h2
   (try simp (disch:=omega) only [go_sem,simprocAttr,zD,zE,eII])
   cases ha:ls[i].1==a
   ·have hn: ¬(ls[i].1=a∧ls[i].2=b):=fun h=>by simp [h.1] at ha
    try refine zO ?_
    refine⟨i+1,⟨hi,by rw [←h2];simp [qat,hn]⟩,by omega,?_⟩
    constructor<;>((try refine zO ?_);(try with_reducible exact True.intro))
   ·(try simp (disch:=omega) only [go_sem,simprocAttr,zD,zE,eII])
    cases hb:ls[i].2==b
    ·have hn: ¬(ls[i].1=a∧ls[i].2=b):=fun h=>by simp [h.2] at hb
     try refine zO ?_
     refine⟨i+1,⟨hi,by rw [←h2];simp [qat,hn]⟩,by omega,?_⟩
     constructor<;>((try refine zO ?_);(try with_reducible exact True.intro))
    ·have hn:ls[i].1=a∧ls[i].2=b:=⟨by simpa using ha,by simpa using hb⟩
     rw [qat,if_pos hn] at h2
     (try simp (disch:=omega) only [go_sem,simprocAttr,zD,zE,←h2])
  ·obtain rfl:i=ls.length:=by omega
   rw [List.drop_length] at h2
   (try simp (disch:=omega) only [go_sem,simprocAttr,zD,zE,←h2,qat])
theorem qj8 {N:Int} {ls:List (Int × Int)} {i:Nat} {x:Int × Int} (h:qbu N ls i x=true):(0≤x.1∧x.1 < N)∧0≤x.2∧x.2 < N:=by
 simp only [qbu,Bool.and_eq_true,Bool.not_eq_true',decide_eq_false_iff_not] at h
 omega
theorem qiV {N:Nat} {ls:List (Int × Int)} (h:qbR N ls 0 ls=true):InR N ls:=by
 intro x hx
 obtain⟨j,hj,rfl⟩:=List.getElem_of_mem hx
 have:=qdW.1 h j _ (List.getElem?_eq_getElem hj)
 exact qj8 this
theorem qkN (N n:Nat) (ls:List (Int × Int)) (hr:InR N ls) (hl:ls.length≤1000000) (hN:N≤1000000) (hn:n < N):Pure Tryz.prog 166 [eG N ls,sci .i64 n] (lI (qa9 N ls n)):=by
 have hn0: ¬((n:Int) < 0):=by omega
 refine qah 200 (fn:=Tryz.f166) Tryz.func166 rfl (by simp [Tryz.ntmps166]) zB zB fun hs=>?_
 (try simp (disch:=omega) only [go_sem,simprocAttr,zD,zE,hn0])
 refine qbk 5 1 trivial rfl (.inl rfl) ?_
 refine qa0 200 200 (fun i:Nat × Nat=>i.1≤N)
  (fun i=>⟨77, [(1,sci .i64 n),(2, .ptr 0 0 0 0),(5, .ref 1 i.2 0 i.1),(6,sci .i64 i.1)], [],2,
   [(1, .arr 1 i.2 (ir eI (List.replicate i.1 (-1)))),(0, .arr 2 0 [[sci .i64 N,lII ls]])]⟩) (fun i=>N - i.1) (0,0) ?_ ?_ ?_
 ·simp
 ·constructor<;>(try simp (disch:=omega) only [go_sem,simprocAttr,zD,zE,Int.natCast_zero])
 ·rintro⟨i,g⟩ h1
  simp only at h1
  try refine zW ?_
  by_cases hi:i < N
  ·try refine zO ?_
   have e:List.take i (List.replicate i (-1:Int))++ [-1]= -1::List.replicate i (-1):=by
    rw [List.take_of_length_le (by simp),←List.replicate_succ',List.replicate_succ]
   refine⟨(i+1,g+1),hi,by simp only;omega,?_⟩
   constructor<;>(try simp (disch:=omega) only [go_sem,simprocAttr,zD,zE,e])
  ·obtain rfl:i=N:=by omega
   try refine zO ?_
   have e0:(ir eI (List.replicate i (-1)))[n]? =some [.p (.sc (.int .i64 (-1)))]:=by
    rw [qee (by simpa using hn)];simp [eI]
   (try simp (disch:=omega) only [go_sem,simprocAttr,zD,zE,e0])
   refine qa0 200 200 (fun k:Nat × List Int=>k.1≤i∧k.2.length=i∧qb3 ls (i - k.1) k.1 k.2=qa9 i ls n)
    (fun k=>⟨77, [(2, .ptr 0 0 0 0),(5, .ref 1 g 0 i),(7,sci .i64 k.1)], [],2,
     [(1, .arr 1 g (ir eI k.2)),(0, .arr 2 0 [[sci .i64 i,lII ls]])]⟩) (fun k=>i - k.1) (0,(List.replicate i (-1)).set n 0) ?_ ?_ ?_
   ·simp [qa9]
   ·constructor<;>(try simp (disch:=omega) only [go_sem,simprocAttr,zD,zE,Int.natCast_zero])
   ·rintro⟨k,out⟩ ⟨h2,h3,h4⟩
    simp only at h2 h3 h4
    try refine zW ?_
    by_cases hk:k < i
    ·try refine zO ?_
     rw [show i - k=(i - (k+1))+1 by omega,qb3] at h4
     refine qa0 200 200 (fun j:Nat × List Int=>j.1≤ls.length∧j.2.length=i∧(ls.drop j.1).foldl (relax k) j.2=ls.foldl (relax k) out)
      (fun j=>⟨77, [(2, .ptr 0 0 0 0),(5, .ref 1 g 0 i),(7,sci .i64 k),(8,sci .i64 j.1)], [],2,
       [(1, .arr 1 g (ir eI j.2)),(0, .arr 2 0 [[sci .i64 i,lII ls]])]⟩) (fun j=>ls.length - j.1) (0,out) ?_ ?_ ?_
     ·simp [h3]
     ·constructor<;>(try simp (disch:=omega) only [go_sem,simprocAttr,zD,zE,Int.natCast_zero])
     ·rintro⟨j,o⟩ ⟨h5,h6,h7⟩
      simp only at h5 h6 h7
      try refine zW ?_
      by_cases hj:j < ls.length
      ·rw [qbI hj,List.foldl_cons] at h7
       obtain⟨⟨a0,a1⟩,b0,b1⟩:=hr ls[j] (List.getElem_mem hj)
       generalize hx:ls[j]=x at *
       obtain⟨xa,xb⟩:=x
       simp only at a0 a1 b0 b1
       obtain⟨a,rfl⟩:=Int.eq_ofNat_of_zero_le a0
       obtain⟨b,rfl⟩:=Int.eq_ofNat_of_zero_le b0
       have ha:a < o.length:=by omega
       have hb:b < o.length:=by omega
       try refine zO ?_
       (refine walk_trim [2,5,7,8] trivial zL ?_;refine zW ?_;refine irun_walk (id:=15) (n:=200) [none,none,none,none,none,none,none,none,none,none,none,none,none,none] qan (by kernel_rfl) ?_)
       (try simp (disch:=omega) only [go_sem,simprocAttr,zD,zE,hx,eII])
       (try simp (disch:=omega) only [go_sem,simprocAttr,zD,zE,eI])
       have ga:o.getD a 0=o[a]:=by simp [List.getD,ha]
       have gb:o.getD b 0=o[b]:=by simp [List.getD,hb]
       simp only [relax,Int.toNat_natCast,ga,gb] at h7
       cases hc:o[a]==(k:Int)
       ·have hc: ¬o[a]=(k:Int):=by simpa using hc
        rw [if_neg (fun h=>hc h.1)] at h7
        try refine zO ?_
        refine⟨(j+1,o),⟨hj,h6,h7⟩,by simp only;omega,?_⟩
        constructor<;>((try refine zO ?_);(try with_reducible exact True.intro))
       ·have hc:o[a]=(k:Int):=by simpa using hc
        (try simp (disch:=omega) only [go_sem,simprocAttr,zD,zE,eI])
        by_cases hd:o[b] < 0
        ·rw [if_pos ⟨hc,hd⟩] at h7
         (try simp (disch:=omega) only [go_sem,simprocAttr,zD,zE,eI])
         refine⟨(j+1,o.set b (k+1)),⟨hj,by simpa using h6,h7⟩,by simp only;omega,?_⟩
         constructor<;>(try simp (disch:=omega) only [go_sem,simprocAttr,zD,zE,eI])
        ·rw [if_neg (fun h=>hd h.2)] at h7
         try refine zO ?_
         refine⟨(j+1,o),⟨hj,h6,h7⟩,by simp only;omega,?_⟩
         constructor<;>((try refine zO ?_);(try with_reducible exact True.intro))
      ·obtain rfl:j=ls.length:=by omega
       rw [List.drop_length,List.foldl_nil] at h7
       try refine zO ?_
       refine⟨(k+1,o),⟨hk,h6,by rw [h7];exact h4⟩,by simp only;omega,?_⟩
       constructor<;>((try refine zO ?_);(try with_reducible exact True.intro))
    ·obtain rfl:k=i:=by omega
     rw [Nat.sub_self,qb3] at h4
     subst h4
     have:=qb4 (N:=k) (n:=n) (ls:=ls)
     try refine zO ?_
     have e:(qa9 k ls n).take k=qa9 k ls n:=List.take_of_length_le (by omega)
     (try simp (disch:=omega) only [go_sem,simprocAttr,zD,zE,e])
theorem qjw (N:Int) (ls:List (Int × Int)):Pure Tryz.prog 78 [eG N ls] (scb (qbw N ls)):=by
 refine qah 200 (fn:=Tryz.f78) Tryz.func78 rfl (by simp [Tryz.ntmps78]) zB zB fun hs=>?_
 try refine zW ?_
 by_cases hN1:N < 1
 ·have e:qbw N ls=false:=by simp [qbw];omega
  (try simp (disch:=omega) only [go_sem,simprocAttr,zD,zE,e])
 by_cases hN6:N > 6
 ·have e:qbw N ls=false:=by simp [qbw];omega
  have hN6':(6:Int) < N:=hN6
  (try simp (disch:=omega) only [go_sem,simprocAttr,zD,zE,e])
 by_cases hL:ls.length > 30
 ·have e:qbw N ls=false:=by simp [qbw];omega
  have hL':(30:Int) < ls.length:=by omega
  have hN6': ¬(6:Int) < N:=by omega
  (try simp (disch:=omega) only [go_sem,simprocAttr,zD,zE,e])
 have hN6': ¬(6:Int) < N:=by omega
 have hL': ¬(30:Int) < ls.length:=by omega
 obtain⟨N,rfl⟩:=Int.eq_ofNat_of_zero_le (show 0≤N by omega)
 try refine zO ?_
 refine qa0 200 200 (fun i:Nat=>i≤ls.length∧qbR N ls i (ls.drop i)=qbR N ls 0 ls)
  (fun i=>⟨100, [(1, .ptr 0 0 0 0),(3,sci .i64 i)], [],1, [(0, .arr 2 0 [[sci .i64 N,lII ls]])]⟩) (fun i=>ls.length - i) 0 ?_ ?_ ?_
 ·simp
 ·constructor<;>(try simp (disch:=omega) only [go_sem,simprocAttr,zD,zE,Int.natCast_zero])
 ·rintro i ⟨h1,h2⟩
  try refine zW ?_
  by_cases hi:i < ls.length
  ·rw [qbI hi,qbR] at h2
   have fail:qbu N ls i ls[i]=false→qbw N ls=false:=by
    intro h
    rw [h,Bool.false_and] at h2
    simp [qbw,←h2]
   generalize hx:ls[i]=x at *
   obtain⟨a,b⟩:=x
   try refine zO ?_
   (refine walk_trim [1,3] trivial zL ?_;refine zW ?_;refine irun_walk (id:=6) (n:=200) [none,none,none,none,none,none,none,none,none,none,none,none,none,none] qan (by kernel_rfl) ?_)
   (try simp (disch:=omega) only [go_sem,simprocAttr,zD,zE,hx,eII])
   (try simp (disch:=omega) only [go_sem,simprocAttr,zD,zE,eII])
   by_cases c1:a < 0
   ·(try simp (disch:=omega) only [go_sem,simprocAttr,zD,zE,fail (by simp [qbu,c1])])
   by_cases c2:(N:Int)≤a
   ·(try simp (disch:=omega) only [go_sem,simprocAttr,zD,zE,fail (by simp [qbu,c2])])
   try refine zO ?_
   by_cases c3:b < 0
   ·(try simp (disch:=omega) only [go_sem,simprocAttr,zD,zE,fail (by simp [qbu,c3])])
   try refine zO ?_
   by_cases c4:(N:Int)≤b
   ·(try simp (disch:=omega) only [go_sem,simprocAttr,zD,zE,fail (by simp [qbu,c4])])
   try refine zO ?_
   cases c5:a==b
   rotate_left
   ·(try simp (disch:=omega) only [go_sem,simprocAttr,zD,zE,fail (by simp [qbu,c5])])
   try refine zO ?_
   (refine qaf 200 ?_;refine zW ?_;refine callA_of (qbX _ _ _ _ (by omega)) zB ?_;((try refine zW ?_);(try with_reducible exact True.intro)))
   try refine zO ?_
   cases c6:qat a b 0 ls != (i:Int)
   rotate_left
   ·(try simp (disch:=omega) only [go_sem,simprocAttr,zD,zE,fail (by simp [qbu,c6])])
   try refine zO ?_
   (refine qaf 200 ?_;refine zW ?_;refine callA_of (qbX _ _ _ _ (by omega)) zB ?_;((try refine zW ?_);(try with_reducible exact True.intro)))
   try refine zO ?_
   by_cases c7:qat b a 0 ls < 0
   ·(try simp (disch:=omega) only [go_sem,simprocAttr,zD,zE,fail (by simp [qbu,c7])])
   have ok:qbu N ls i (a,b)=true:=by simp [qbu,c1,c2,c3,c4,c5,c6,c7]
   rw [ok,Bool.true_and] at h2
   try refine zO ?_
   refine⟨i+1,⟨hi,h2⟩,by omega,?_⟩
   constructor<;>((try refine zO ?_);(try with_reducible exact True.intro))
  ·obtain rfl:i=ls.length:=by omega
   rw [List.drop_length] at h2
   have hok:qbR N ls 0 ls=true:=h2.symm
   have hr:=qiV hok
   have hb:qbw N ls=(List.range N).all fun f=>(qa9 N ls f).all fun d=>decide (0≤d):=by
    have e1:decide (1≤(N:Int))=true:=by simp;omega
    have e2:decide ((N:Int)≤6)=true:=by simp;omega
    have e3:decide (ls.length≤30)=true:=by simp;omega
    rw [qbw,e1,e2,e3,hok]
    simp
   try refine zO ?_
   refine qa0 200 200 (fun f:Nat=>f≤N∧ ∀g,g < f→ ∀d∈qa9 N ls g,0≤d)
    (fun f=>⟨100, [(1, .ptr 0 0 0 0),(6,sci .i64 f)], [],1, [(0, .arr 2 0 [[sci .i64 N,lII ls]])]⟩) (fun f=>N - f) 0 ?_ ?_ ?_
   ·simp
   ·constructor<;>(try simp (disch:=omega) only [go_sem,simprocAttr,zD,zE,Int.natCast_zero])
   ·rintro f ⟨g1,g2⟩
    try refine zW ?_
    by_cases hf:f < N
    ·try refine zO ?_
     (refine qaf 200 ?_;refine zW ?_;refine callA_of (qkN _ _ _ hr (by omega) (by omega) hf) zB ?_;((try refine zW ?_);(try with_reducible exact True.intro)))
     try refine zO ?_
     refine qa0 200 200 (fun j:Nat=>j≤N∧ ∀k (hk:k < (qa9 N ls f).length),k < j→0≤(qa9 N ls f)[k])
      (fun j=>⟨100, [(1, .ptr 0 0 0 0),(6,sci .i64 f),(7,lI (qa9 N ls f)),(8,sci .i64 j)], [],1, [(0, .arr 2 0 [[sci .i64 N,lII ls]])]⟩) (fun j=>N - j) 0 ?_ ?_ ?_
     ·simp
     ·constructor<;>(try simp (disch:=omega) only [go_sem,simprocAttr,zD,zE,Int.natCast_zero])
     ·rintro j ⟨k1,k2⟩
      have hlen:=qb4 (N:=N) (n:=f) (ls:=ls)
      try refine zW ?_
      by_cases hj:j < N
      ·have hjl:j < (qa9 N ls f).length:=by omega
       (try simp (disch:=omega) only [go_sem,simprocAttr,zD,zE,eI])
       by_cases hd:(qa9 N ls f)[j] < 0
       ·have e:qbw N ls=false:=by
         rw [hb,List.all_eq_false]
         refine⟨f,by simpa using hf,?_⟩
         rw [Bool.not_eq_true,List.all_eq_false]
         exact⟨_,List.getElem_mem hjl,by simp;omega⟩
        (try simp (disch:=omega) only [go_sem,simprocAttr,zD,zE,e])
       ·try refine zO ?_
        refine⟨j+1,⟨hj,fun k hk hlt=>?_⟩,by omega,?_⟩
        ·by_cases e:k=j
         ·subst e;omega
         ·exact k2 k hk (by omega)
        ·constructor<;>((try refine zO ?_);(try with_reducible exact True.intro))
      ·obtain rfl:j=N:=by omega
       have: ¬(j < (qa9 j ls f).length):=by omega
       (try simp (disch:=omega) only [go_sem,simprocAttr,zD,zE,this])
       refine⟨f+1,⟨hf,fun g hg d hd=>?_⟩,by omega,?_⟩
       ·by_cases e:g=f
        ·subst e
         obtain⟨k,hk,rfl⟩:=List.getElem_of_mem hd
         exact k2 k hk (by omega)
        ·exact g2 g (by omega) d hd
       ·constructor<;>((try refine zO ?_);(try with_reducible exact True.intro))
    ·obtain rfl:f=N:=by omega
     have e:qbw f ls=true:=by
      rw [hb,List.all_eq_true]
      intro g hg
      rw [List.all_eq_true]
      intro d hd
      simpa using g2 g (by simpa using hg) d hd
     (try simp (disch:=omega) only [go_sem,simprocAttr,zD,zE,e])
end Go.Proofs.NO
