/- Facts that the proofs of this claim lean on. -/
import Derived.Test.YteebghpjgcacmaaGreatYzP2
import Derived.Test.YteebghpjgcacmaaGreatYWb
set_option linter.unusedSimpArgs false
set_option linter.unusedVariables false
/- What a host tells without logs. -/
namespace Go.Proofs.GY
open Go Go.Idl Go.Proofs
set_option maxHeartbeats 20000000
set_option maxRecDepth 100000
theorem qji: ∀n:Nat,pvs2 (List.replicate n [nil0])=some (List.replicate n [.sc (.slice none 0 0)])
 | 0=>rfl
 | n+1=>by simp only [List.replicate_succ,pvs2,pvs,qji n];rfl
theorem qcw (n:Nat):pvs2 (List.take n (List.replicate n [nil0]))=some (List.replicate n [.sc (.slice none 0 0)]):=by
 rw [List.take_of_length_le (by simp),qji]
theorem qlz (h:Hs) (hg:gHs h):Pure Tryz.prog 38 [lHs h,scb false] (.agg [sci .i64 h.node,sci .i64 h.state,sci .i64 h.steps,lI (h.out.map fun l=>(l.length:Int)), .p (.imm 1 (List.replicate h.inn.length [.sc (.slice none 0 0)])),nil0]):=by
 have hg2:=hg
 obtain⟨node,state,steps,inn,out⟩:=h
 obtain⟨h2,h3,h4,h5⟩:=hg
 simp only at h2 h3 h4 h5
 refine qaf 200 (fn:=Tryz.f38) Tryz.func38 rfl (by simp [Tryz.ntmps38]) zB zB fun hs=>?_
 try refine zW ?_
 (refine qac 200 ?_;refine zW ?_;refine callA_of (qdZ ⟨node,state,steps,inn,out⟩) zB ?_;((try refine zW ?_);(try with_reducible exact True.intro)))
 try refine zW ?_
 (refine qkh 200 ?_;refine zW ?_;refine callA_of (qiQ ⟨node,state,steps,inn,out⟩ hg2) zB ?_;((try refine zW ?_);(try with_reducible exact True.intro)))
 try refine zO ?_
 refine walk_ownB 2 0 3 1 trivial rfl rfl rfl (.inr rfl) ?_
 simp only [List.set_cons_zero,List.set_cons_succ,Nat.reduceAdd]
 obtain⟨X,hX⟩: ∃X:List Int,X=out.map fun l=>(l.length:Int):=⟨_,rfl⟩
 have hXl:X.length=out.length:=by rw [hX,List.length_map]
 have hXs: ∀(i:Nat) (li:i < out.length),X.take (i+1)=X.take i++ [(out[i].length:Int)]:=fun i li=>by
  rw [hX,List.take_succ_eq_append_getElem (by rw [List.length_map];exact li),List.getElem_map]
 rw [←hX]
 clear hX
 (refine walk_trim [4,5,20,21,22,68] trivial zL ?_;((try refine zW ?_);(try with_reducible exact True.intro)))
 refine qad 200 200 (fun i:Nat × Nat=>i.1≤out.length)
  (fun i=>⟨35, [(4, .ptr 1 0 0 0),(5, .ptr 2 0 0 0),(20,lLs out),(21,sci .i64 out.length),(22,sci .i64 i.1)], [],5, [(4, .arr 1 i.2 (ir eI (X.take i.1))),(3, .arr 1 0 (List.replicate inn.length [nil0])),(2, .arr 6 0 [[sci .i64 node,sci .i64 state,sci .i64 steps, .ref 4 i.2 0 i.1, .ref 3 0 0 inn.length,nil0]]),(1, .arr 6 0 [[sci .i64 0,sci .i64 0,sci .i64 0,nil0,nil0,nil0]]),(0, .arr 5 0 [[sci .i64 node,sci .i64 state,sci .i64 steps,lMs inn,lLs out]])]⟩) (fun i=>out.length - i.1) (0,0) [] ?_ ?_ ?_
 ·simp
 ·constructor<;>(try simp (maxSteps:=2000000) (disch:=omega) only [go_sem,simprocAttr,zD,zE,Int.natCast_zero,List.take_of_length_le,List.append_assoc,List.take_zero])
 ·rintro⟨i,g⟩ hi
  simp only at hi
  try refine zW ?_
  by_cases li:i < out.length
  ·have hl5:=h5 out[i] (List.getElem_mem li)
   have hpt:X.take (i+1)=X.take i++ [(out[i].length:Int)]:=hXs i li
   have htt:(X.take i).length=i:=by rw [List.length_take];omega
   have hti:(X.take i).take i=X.take i:=by rw [List.take_take,Nat.min_self]
   (try simp (maxSteps:=2000000) (disch:=omega) only [go_sem,simprocAttr,zD,zE,eLs,htt])
   refine⟨(i+1,g+1), [],by first | assumption | omega,?_,?_⟩
   ·(try simp only []);omega
   ·constructor<;>(try simp (maxSteps:=2000000) (disch:=omega) only [go_sem,simprocAttr,zD,zE,hpt,hti,ir_snoc,List.map_cons,List.map_nil,List.append_assoc])
  ·obtain rfl:i=out.length:=by omega
   have e:X.take out.length=X:=List.take_of_length_le (by omega)
   (try simp (maxSteps:=2000000) (disch:=omega) only [go_sem,simprocAttr,zD,zE,e,qcw])
end Go.Proofs.GY
/- The first host of a node, the program's and the document's. -/
namespace Go.Proofs.GY
open Go Go.Idl Go.Proofs Go.GP
set_option maxHeartbeats 20000000
set_option maxRecDepth 100000
def eZ (_:Unit):List PV:= [.sc (.slice none 0 0)]
theorem qfA {P:Program} {f:FuncId} {args:List IV} {R:List (Nat × IBlk)} {x y:IV} (h: ∀M v,VRel M x v→VRel M y v) (p:PCall P f args R x):PCall P f args R y:=by
 intro hh hR M vs hM hl hr
 refine Calls.mono (p hh hR M vs hM hl hr) fun e w' ⟨M',nx',l',r,h1,h2,h3,h4,h5,h6,h7⟩=>⟨M',nx',l', .ret y,h1,h2,h3,?_,rfl,h6,h7⟩
 subst h5
 obtain⟨v,e1,e2⟩:=h4
 exact⟨v,e1,h _ _ e2⟩
theorem qeB {w:World} {own:Nat→Prop} {Z:List Unit} {sz:Nat} {v:Value} (h:PRel w own (.imm 1 (pr eZ Z)) v):PRel w own (.imm 1 (List.replicate Z.length [.imm sz []])) v:=by
 generalize hr:pr eZ Z=rows at h
 have hg: ∀i,i < Z.length→rows[i]? =some [.sc (.slice none 0 0)]:=fun i hi=>by rw [←hr];simp [pr,eZ,hi]
 have hl:rows.length=Z.length:=by rw [←hr];simp [pr]
 cases h with
 | imm sz rows a cap c o f h1 h2 h3 h4 h5 h6=>
   have e:rows.length=(List.replicate Z.length [PV.imm sz []]).length:=by simp [hl]
   have key: ∀(i:Nat) (row:List PV),(List.replicate Z.length [PV.imm sz []])[i]? =some row→i < Z.length∧row= [PV.imm sz []]:=fun i row hi=>by
    obtain⟨h7,h8⟩:=List.getElem?_eq_some_iff.1 hi
    exact⟨by simpa using h7,by simpa using h8.symm⟩
   rw [e]
   refine .imm 1 _ a cap c o f (by simp;omega) h2 (fun q=>h3 (by rw [e];exact q)) (fun i row hi=>by rw [(key i row hi).2];rfl) (fun i row j x hi hj=>?_) fun i row j x hi hj=>?_
   ·obtain⟨k1,rfl⟩:=key i row hi
    cases j with
    | zero=>exact h5 i _ 0 _ (hg i k1) rfl
    | succ j=>simp at hj
   ·obtain⟨k1,rfl⟩:=key i row hi
    cases j with
    | zero=>
      simp at hj
      subst hj
      have:=h6 i _ 0 _ (hg i k1) rfl
      generalize f i 0=u at this
      cases this
      exact .imm _ [] none 0 0 0 (fun _ _=> .slice none 0 0) (Nat.le_refl _) (Nat.zero_le _) (fun q=>by simp at q) (fun i row q=>by simp at q) (fun i row j x q=>by simp at q) fun i row j x q=>by simp at q
    | succ j=>simp at hj
theorem qoF {M:Mem} {v:Value} {a b c:Int} {Z1 Z2:List Unit} (h:VRel M (.agg [sci .i64 a,sci .i64 b,sci .i64 c, .p (.imm 1 (pr eZ Z1)), .p (.imm 1 (pr eZ Z2))]) v):
  VRel M (lHs ⟨a,b,c,List.replicate Z1.length [],List.replicate Z2.length []⟩) v:=by
 have e1:pr eMs (List.replicate Z1.length [])=List.replicate Z1.length [.imm 2 []]:=by simp [pr,eMs]
 have e2:pr eLs (List.replicate Z2.length [])=List.replicate Z2.length [.imm 1 []]:=by simp [pr,eLs]
 cases h with
 | agg cs vs hl h1 r=>
   show VRel M (.agg [sci .i64 a,sci .i64 b,sci .i64 c, .p (.imm 1 (pr eMs (List.replicate Z1.length []))), .p (.imm 1 (pr eLs (List.replicate Z2.length [])))]) _
   rw [e1,e2]
   refine .agg _ vs (by simpa using hl) h1 fun i x w hx hw=>?_
   match i,hx with
   | 0,hx=>exact r 0 x w hx hw
   | 1,hx=>exact r 1 x w hx hw
   | 2,hx=>exact r 2 x w hx hw
   | 3,hx=>
     simp at hx
     subst hx
     have:=r 3 _ w rfl hw
     cases this with
     | p _ _ h=>exact .p _ _ (qeB h)
   | 4,hx=>
     simp at hx
     subst hx
     have:=r 4 _ w rfl hw
     cases this with
     | p _ _ h=>exact .p _ _ (qeB h)
   | i+5,hx=>simp at hx
theorem qkD (n:Int): ∀(ls:List (Int × Int)) (i:Nat),(ins n i ls).length≤ls.length
 | [],i=>by simp [ins]
 | x::r,i=>by
   have:=qkD n r (i+1)
   unfold ins
   split<;>simp<;>omega
theorem qjd (n:Int): ∀(ls:List (Int × Int)) (i:Nat),(outs n i ls).length≤ls.length
 | [],i=>by simp [outs]
 | x::r,i=>by
   have:=qjd n r (i+1)
   unfold outs
   split<;>simp<;>omega
theorem qgj (n:Nat):pr eZ (List.replicate n ())=List.replicate n [.sc (.slice none 0 0)]:=by simp [pr,eZ]
theorem qn4 (N:Int) (ls:List (Int × Int)) (T:List Nd) (ff:Bool) (room:Nat) (acts:List (Int × Int × Int)) (n:Int) (m:Nat) (x:Nd) (hl:ls.length≤1000000) (hm:(m:Int)=if n < 0∨N≤n then 0 else n) (hx:T[m]? =some x):
  Pure Tryz.prog 31 [lApp ⟨N,ls,T,ff,room,acts⟩,sci .i64 n] (lHs ⟨m,x.start,0,List.replicate (ins m 0 ls).length [],List.replicate (outs m 0 ls).length []⟩):=by
 obtain⟨ln,ex⟩:=List.getElem?_eq_some_iff.1 hx
 obtain⟨st,ss⟩:=x
 have hz:Pure Tryz.prog 31 [lApp ⟨N,ls,T,ff,room,acts⟩,sci .i64 n] (.agg [sci .i64 m,sci .i64 st,sci .i64 0, .p (.imm 1 (pr eZ (List.replicate (ins m 0 ls).length ()))), .p (.imm 1 (pr eZ (List.replicate (outs m 0 ls).length ())))]):=by
  rw [qgj,qgj]
  have hi1:=qkD m ls 0
  have ho1:=qjd m ls 0
  refine qaf 200 (fn:=Tryz.f31) Tryz.func31 rfl (by simp [Tryz.ntmps31]) zB zB fun hs=>?_
  by_cases c1:n < 0
  ·rw [if_pos (.inl c1)] at hm
   obtain rfl:m=0:=by omega
   rw [Int.natCast_zero] at hi1 ho1
   (try simp (maxSteps:=2000000) (disch:=omega) only [go_sem,simprocAttr,zD,zE,c1])
   (refine walk_trim [1,2,4,78] trivial zL ?_;refine zW ?_;refine irun_walk (id:=3) (n:=200) [none,none,none,none,none,none,none,none,none,none,some [0,1,2,3,4,5,6,13,14,15],none,some [0,1,2,3,4,5,6,13,14,15,16,17,18],none,none,none,some [0,1,2,3,4,5,6,11,12],none,some [0,1,2,3,4,5,6,11,12],none,some []] qap (by kernel_rfl) ?_)
   (try simp (maxSteps:=2000000) (disch:=omega) only [go_sem,simprocAttr,zD,zE,ex,eNd])
   (refine at_dcall ?_;refine zW ?_;refine callA_of (qcX N 0 ls hl) zB ?_;((try refine zW ?_);(try with_reducible exact True.intro)))
   (try simp (maxSteps:=2000000) (disch:=omega) only [go_sem,simprocAttr,zD,zE,Int.natCast_zero])
   (refine at_dcall ?_;refine zW ?_;refine callA_of (qbZ N 0 ls hl) zB ?_;((try refine zW ?_);(try with_reducible exact True.intro)))
   (try simp (maxSteps:=2000000) (disch:=omega) only [go_sem,simprocAttr,zD,zE,qcw])
  ·by_cases c2:N≤n
   ·rw [if_pos (.inr c2)] at hm
    obtain rfl:m=0:=by omega
    rw [Int.natCast_zero] at hi1 ho1
    (try simp (maxSteps:=2000000) (disch:=omega) only [go_sem,simprocAttr,zD,zE,c1,c2])
    (refine walk_trim [1,2,4,78] trivial zL ?_;refine zW ?_;refine irun_walk (id:=3) (n:=200) [none,none,none,none,none,none,none,none,none,none,some [0,1,2,3,4,5,6,13,14,15],none,some [0,1,2,3,4,5,6,13,14,15,16,17,18],none,none,none,some [0,1,2,3,4,5,6,11,12],none,some [0,1,2,3,4,5,6,11,12],none,some []] qap (by kernel_rfl) ?_)
    (try simp (maxSteps:=2000000) (disch:=omega) only [go_sem,simprocAttr,zD,zE,ex,eNd])
    (refine at_dcall ?_;refine zW ?_;refine callA_of (qcX N 0 ls hl) zB ?_;((try refine zW ?_);(try with_reducible exact True.intro)))
    (try simp (maxSteps:=2000000) (disch:=omega) only [go_sem,simprocAttr,zD,zE,Int.natCast_zero])
    (refine at_dcall ?_;refine zW ?_;refine callA_of (qbZ N 0 ls hl) zB ?_;((try refine zW ?_);(try with_reducible exact True.intro)))
    (try simp (maxSteps:=2000000) (disch:=omega) only [go_sem,simprocAttr,zD,zE,qcw])
   ·rw [if_neg (by omega)] at hm
    subst hm
    (try simp (maxSteps:=2000000) (disch:=omega) only [go_sem,simprocAttr,zD,zE,c1,c2])
    (refine walk_trim [1,2,4,78] trivial zL ?_;refine zW ?_;refine irun_walk (id:=3) (n:=200) [none,none,none,none,none,none,none,none,none,none,some [0,1,2,3,4,5,6,13,14,15],none,some [0,1,2,3,4,5,6,13,14,15,16,17,18],none,none,none,some [0,1,2,3,4,5,6,11,12],none,some [0,1,2,3,4,5,6,11,12],none,some []] qap (by kernel_rfl) ?_)
    (try simp (maxSteps:=2000000) (disch:=omega) only [go_sem,simprocAttr,zD,zE,ex,eNd])
    (refine at_dcall ?_;refine zW ?_;refine callA_of (qcX N m ls hl) zB ?_;((try refine zW ?_);(try with_reducible exact True.intro)))
    try refine zO ?_
    (refine at_dcall ?_;refine zW ?_;refine callA_of (qbZ N m ls hl) zB ?_;((try refine zW ?_);(try with_reducible exact True.intro)))
    (try simp (maxSteps:=2000000) (disch:=omega) only [go_sem,simprocAttr,zD,zE,qcw])
 have:=qfA (fun M v=>qoF) hz
 simpa using this
end Go.Proofs.GY
/- What a host tells. -/
namespace Go.Proofs.GY
open Go Go.Idl Go.Proofs
set_option maxHeartbeats 20000000
set_option maxRecDepth 100000
theorem qlB (h:Hs) (hg:gHs h):Pure Tryz.prog 38 [lHs h,scb true] (lPc ⟨h.node,h.state,h.steps,h.out.map fun l=>(l.length:Int),h.inn,h.out⟩):=by
 have hg2:=hg
 obtain⟨node,state,steps,inn,out⟩:=h
 obtain⟨h2,h3,h4,h5⟩:=hg
 simp only at h2 h3 h4 h5
 refine qaf 200 (fn:=Tryz.f38) Tryz.func38 rfl (by simp [Tryz.ntmps38]) zB zB fun hs=>?_
 try refine zW ?_
 (refine qac 200 ?_;refine zW ?_;refine callA_of (qdZ ⟨node,state,steps,inn,out⟩) zB ?_;((try refine zW ?_);(try with_reducible exact True.intro)))
 try refine zW ?_
 (refine qkh 200 ?_;refine zW ?_;refine callA_of (qiQ ⟨node,state,steps,inn,out⟩ hg2) zB ?_;((try refine zW ?_);(try with_reducible exact True.intro)))
 try refine zO ?_
 refine walk_ownB 2 0 3 1 trivial rfl rfl rfl (.inr rfl) ?_
 simp only [List.set_cons_zero,List.set_cons_succ,Nat.reduceAdd]
 obtain⟨X,hX⟩: ∃X:List Int,X=out.map fun l=>(l.length:Int):=⟨_,rfl⟩
 have hXl:X.length=out.length:=by rw [hX,List.length_map]
 have hXs: ∀(i:Nat) (li:i < out.length),X.take (i+1)=X.take i++ [(out[i].length:Int)]:=fun i li=>by
  rw [hX,List.take_succ_eq_append_getElem (by rw [List.length_map];exact li),List.getElem_map]
 rw [←hX]
 clear hX
 (refine walk_trim [4,5,20,21,22,68] trivial zL ?_;((try refine zW ?_);(try with_reducible exact True.intro)))
 refine qad 200 200 (fun i:Nat × Nat=>i.1≤out.length)
  (fun i=>⟨35, [(4, .ptr 1 0 0 0),(5, .ptr 2 0 0 0),(20,lLs out),(21,sci .i64 out.length),(22,sci .i64 i.1)], [],4, [(3, .arr 1 i.2 (ir eI (X.take i.1))),(2, .arr 6 0 [[sci .i64 node,sci .i64 state,sci .i64 steps, .ref 3 i.2 0 i.1,lMs inn,lLs out]]),(1, .arr 6 0 [[sci .i64 0,sci .i64 0,sci .i64 0,nil0,nil0,nil0]]),(0, .arr 5 0 [[sci .i64 node,sci .i64 state,sci .i64 steps,lMs inn,lLs out]])]⟩) (fun i=>out.length - i.1) (0,0) [] ?_ ?_ ?_
 ·simp
 ·constructor<;>(try simp (maxSteps:=2000000) (disch:=omega) only [go_sem,simprocAttr,zD,zE,Int.natCast_zero,List.take_of_length_le,List.append_assoc,List.take_zero])
 ·rintro⟨i,g⟩ hi
  simp only at hi
  try refine zW ?_
  by_cases li:i < out.length
  ·have hl5:=h5 out[i] (List.getElem_mem li)
   have hpt:X.take (i+1)=X.take i++ [(out[i].length:Int)]:=hXs i li
   have htt:(X.take i).length=i:=by rw [List.length_take];omega
   have hti:(X.take i).take i=X.take i:=by rw [List.take_take,Nat.min_self]
   (try simp (maxSteps:=2000000) (disch:=omega) only [go_sem,simprocAttr,zD,zE,eLs,htt])
   refine⟨(i+1,g+1), [],by first | assumption | omega,?_,?_⟩
   ·(try simp only []);omega
   ·constructor<;>(try simp (maxSteps:=2000000) (disch:=omega) only [go_sem,simprocAttr,zD,zE,hpt,hti,ir_snoc,List.map_cons,List.map_nil,List.append_assoc])
  ·obtain rfl:i=out.length:=by omega
   have e:X.take out.length=X:=List.take_of_length_le (by omega)
   (try simp (maxSteps:=2000000) (disch:=omega) only [go_sem,simprocAttr,zD,zE,e])
end Go.Proofs.GY
