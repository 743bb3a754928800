/- Facts that the proofs of this claim lean on. -/
import Derived.Test.YtfhhdgkhajkapaaGreatNzP2
import Derived.Test.YtfhhdgkhajkapaaGreatNWb
set_option linter.unusedSimpArgs false
set_option linter.unusedVariables false
/- What a host tells without logs. -/
namespace Go.Proofs.NO
open Go Go.Idl Go.Proofs
set_option maxHeartbeats 20000000
set_option maxRecDepth 100000
theorem qii: ∀n:Nat,pvs2 (List.replicate n [nil0])=some (List.replicate n [.sc (.slice none 0 0)])
 | 0=>rfl
 | n+1=>by simp only [List.replicate_succ,pvs2,pvs,qii n];rfl
theorem qdB (n:Nat):pvs2 (List.take n (List.replicate n [nil0]))=some (List.replicate n [.sc (.slice none 0 0)]):=by
 rw [List.take_of_length_le (by simp),qii]
end Go.Proofs.NO
/- The first host of a node, the program's and the document's. -/
namespace Go.Proofs.NO
open Go Go.Idl Go.Proofs Go.GP
set_option maxHeartbeats 20000000
set_option maxRecDepth 100000
def eZ (_:Unit):List PV:= [.sc (.slice none 0 0)]
theorem qhh {P:Program} {f:FuncId} {args:List IV} {R:List (Nat × IBlk)} {x y:IV} (h: ∀M v,VRel M x v→VRel M y v) (p:PCall P f args R x):PCall P f args R y:=by
 intro hh hR M vs hM hl hr
 refine Calls.mono (p hh hR M vs hM hl hr) fun e w' ⟨M',nx',l',r,h1,h2,h3,h4,h5,h6,h7⟩=>⟨M',nx',l', .ret y,h1,h2,h3,?_,rfl,h6,h7⟩
 subst h5
 obtain⟨v,e1,e2⟩:=h4
 exact⟨v,e1,h _ _ e2⟩
theorem qfw {w:World} {own:Nat→Prop} {Z:List Unit} {sz:Nat} {v:Value} (h:PRel w own (.imm 1 (pr eZ Z)) v):PRel w own (.imm 1 (List.replicate Z.length [.imm sz []])) v:=by
 generalize hr:pr eZ Z=rows at h
 have hg: ∀i,i < Z.length→rows[i]? =some [.sc (.slice none 0 0)]:=fun i hi=>by rw [←hr];simp [pr,eZ,hi]
 have hl:rows.length=Z.length:=by rw [←hr];simp [pr]
 cases h with
 | imm sz rows a cap c o f h1 h2 h3 h4 h5 h6=>
   have e:rows.length=(List.replicate Z.length [PV.imm sz []]).length:=by simp [hl]
   have key: ∀(i:Nat) (row:List PV),(List.replicate Z.length [PV.imm sz []])[i]? =some row→i < Z.length∧row= [PV.imm sz []]:=fun i row hi=>by
    obtain⟨h7,h8⟩:=List.getElem?_eq_some_iff.1 hi
    exact⟨by simpa using h7,by simpa using h8.symm⟩
   rw [e]
   refine .imm 1 _ a cap c o f (by simp;omega) h2 (fun q=>h3 (by rw [e];exact q)) (fun i row hi=>by rw [(key i row hi).2];rfl) (fun i row j x hi hj=>?_) fun i row j x hi hj=>?_
   ·obtain⟨k1,rfl⟩:=key i row hi
    cases j with
    | zero=>exact h5 i _ 0 _ (hg i k1) rfl
    | succ j=>simp at hj
   ·obtain⟨k1,rfl⟩:=key i row hi
    cases j with
    | zero=>
      simp at hj
      subst hj
      have:=h6 i _ 0 _ (hg i k1) rfl
      generalize f i 0=u at this
      cases this
      exact .imm _ [] none 0 0 0 (fun _ _=> .slice none 0 0) (Nat.le_refl _) (Nat.zero_le _) (fun q=>by simp at q) (fun i row q=>by simp at q) (fun i row j x q=>by simp at q) fun i row j x q=>by simp at q
    | succ j=>simp at hj
theorem qnA {M:Mem} {v:Value} {a b c:Int} {Z1 Z2:List Unit} (h:VRel M (.agg [sci .i64 a,sci .i64 b,sci .i64 c, .p (.imm 1 (pr eZ Z1)), .p (.imm 1 (pr eZ Z2))]) v):
  VRel M (lHs ⟨a,b,c,List.replicate Z1.length [],List.replicate Z2.length []⟩) v:=by
 have e1:pr eMs (List.replicate Z1.length [])=List.replicate Z1.length [.imm 2 []]:=by simp [pr,eMs]
 have e2:pr eLs (List.replicate Z2.length [])=List.replicate Z2.length [.imm 1 []]:=by simp [pr,eLs]
 cases h with
 | agg cs vs hl h1 r=>
   show VRel M (.agg [sci .i64 a,sci .i64 b,sci .i64 c, .p (.imm 1 (pr eMs (List.replicate Z1.length []))), .p (.imm 1 (pr eLs (List.replicate Z2.length [])))]) _
   rw [e1,e2]
   refine .agg _ vs (by simpa using hl) h1 fun i x w hx hw=>?_
   match i,hx with
   | 0,hx=>exact r 0 x w hx hw
   | 1,hx=>exact r 1 x w hx hw
   | 2,hx=>exact r 2 x w hx hw
   | 3,hx=>
     simp at hx
     subst hx
     have:=r 3 _ w rfl hw
     cases this with
     | p _ _ h=>exact .p _ _ (qfw h)
   | 4,hx=>
     simp at hx
     subst hx
     have:=r 4 _ w rfl hw
     cases this with
     | p _ _ h=>exact .p _ _ (qfw h)
   | i+5,hx=>simp at hx
theorem qj0 (n:Int): ∀(ls:List (Int × Int)) (i:Nat),(ins n i ls).length≤ls.length
 | [],i=>by simp [ins]
 | x::r,i=>by
   have:=qj0 n r (i+1)
   unfold ins
   split<;>simp<;>omega
theorem qif (n:Int): ∀(ls:List (Int × Int)) (i:Nat),(outs n i ls).length≤ls.length
 | [],i=>by simp [outs]
 | x::r,i=>by
   have:=qif n r (i+1)
   unfold outs
   split<;>simp<;>omega
theorem qkl (n:Nat):pr eZ (List.replicate n ())=List.replicate n [.sc (.slice none 0 0)]:=by simp [pr,eZ]
theorem qm3 (N:Int) (ls:List (Int × Int)) (T:List Nd) (ff:Bool) (room:Nat) (acts:List (Int × Int × Int)) (n:Int) (m:Nat) (x:Nd) (hl:ls.length≤1000000) (hm:(m:Int)=if n < 0∨N≤n then 0 else n) (hx:T[m]? =some x):
  Pure Tryz.prog 20 [lApp ⟨N,ls,T,ff,room,acts⟩,sci .i64 n] (lHs ⟨m,x.start,0,List.replicate (ins m 0 ls).length [],List.replicate (outs m 0 ls).length []⟩):=by
 obtain⟨ln,ex⟩:=List.getElem?_eq_some_iff.1 hx
 obtain⟨st,ss⟩:=x
 have hz:Pure Tryz.prog 20 [lApp ⟨N,ls,T,ff,room,acts⟩,sci .i64 n] (.agg [sci .i64 m,sci .i64 st,sci .i64 0, .p (.imm 1 (pr eZ (List.replicate (ins m 0 ls).length ()))), .p (.imm 1 (pr eZ (List.replicate (outs m 0 ls).length ())))]):=by
  rw [qkl,qkl]
  have hi1:=qj0 m ls 0
  have ho1:=qif m ls 0
  refine qah 200 (fn:=Tryz.f20) Tryz.func20 rfl (by simp [Tryz.ntmps20]) zB zB fun hs=>?_
  by_cases c1:n < 0
  ·rw [if_pos (.inl c1)] at hm
   obtain rfl:m=0:=by omega
   rw [Int.natCast_zero] at hi1 ho1
   (try simp (maxSteps:=2000000) (disch:=omega) only [go_sem,simprocAttr,zD,zE,c1])
   (refine walk_trim [1,2,4,45] trivial zL ?_;refine zW ?_;refine irun_walk (id:=3) (n:=200) [none,none,none,none,none,none,none,none,none,none,some [0,1,2,3,4,5,6,13,14,15],none,some [0,1,2,3,4,5,6,13,14,15,16,17,18],none,none,none,some [0,1,2,3,4,5,6,11,12],none,some [0,1,2,3,4,5,6,11,12],none,some []] qan (by kernel_rfl) ?_)
   (try simp (maxSteps:=2000000) (disch:=omega) only [go_sem,simprocAttr,zD,zE,ex,eNd])
   (refine at_dcall ?_;refine zW ?_;refine callA_of (qd1 N 0 ls hl) zB ?_;((try refine zW ?_);(try with_reducible exact True.intro)))
   (try simp (maxSteps:=2000000) (disch:=omega) only [go_sem,simprocAttr,zD,zE,Int.natCast_zero])
   (refine at_dcall ?_;refine zW ?_;refine callA_of (qcO N 0 ls hl) zB ?_;((try refine zW ?_);(try with_reducible exact True.intro)))
   (try simp (maxSteps:=2000000) (disch:=omega) only [go_sem,simprocAttr,zD,zE,qdB])
  ·by_cases c2:N≤n
   ·rw [if_pos (.inr c2)] at hm
    obtain rfl:m=0:=by omega
    rw [Int.natCast_zero] at hi1 ho1
    (try simp (maxSteps:=2000000) (disch:=omega) only [go_sem,simprocAttr,zD,zE,c1,c2])
    (refine walk_trim [1,2,4,45] trivial zL ?_;refine zW ?_;refine irun_walk (id:=3) (n:=200) [none,none,none,none,none,none,none,none,none,none,some [0,1,2,3,4,5,6,13,14,15],none,some [0,1,2,3,4,5,6,13,14,15,16,17,18],none,none,none,some [0,1,2,3,4,5,6,11,12],none,some [0,1,2,3,4,5,6,11,12],none,some []] qan (by kernel_rfl) ?_)
    (try simp (maxSteps:=2000000) (disch:=omega) only [go_sem,simprocAttr,zD,zE,ex,eNd])
    (refine at_dcall ?_;refine zW ?_;refine callA_of (qd1 N 0 ls hl) zB ?_;((try refine zW ?_);(try with_reducible exact True.intro)))
    (try simp (maxSteps:=2000000) (disch:=omega) only [go_sem,simprocAttr,zD,zE,Int.natCast_zero])
    (refine at_dcall ?_;refine zW ?_;refine callA_of (qcO N 0 ls hl) zB ?_;((try refine zW ?_);(try with_reducible exact True.intro)))
    (try simp (maxSteps:=2000000) (disch:=omega) only [go_sem,simprocAttr,zD,zE,qdB])
   ·rw [if_neg (by omega)] at hm
    subst hm
    (try simp (maxSteps:=2000000) (disch:=omega) only [go_sem,simprocAttr,zD,zE,c1,c2])
    (refine walk_trim [1,2,4,45] trivial zL ?_;refine zW ?_;refine irun_walk (id:=3) (n:=200) [none,none,none,none,none,none,none,none,none,none,some [0,1,2,3,4,5,6,13,14,15],none,some [0,1,2,3,4,5,6,13,14,15,16,17,18],none,none,none,some [0,1,2,3,4,5,6,11,12],none,some [0,1,2,3,4,5,6,11,12],none,some []] qan (by kernel_rfl) ?_)
    (try simp (maxSteps:=2000000) (disch:=omega) only [go_sem,simprocAttr,zD,zE,ex,eNd])
    (refine at_dcall ?_;refine zW ?_;refine callA_of (qd1 N m ls hl) zB ?_;((try refine zW ?_);(try with_reducible exact True.intro)))
    try refine zO ?_
    (refine at_dcall ?_;refine zW ?_;refine callA_of (qcO N m ls hl) zB ?_;((try refine zW ?_);(try with_reducible exact True.intro)))
    (try simp (maxSteps:=2000000) (disch:=omega) only [go_sem,simprocAttr,zD,zE,qdB])
 have:=qhh (fun M v=>qnA) hz
 simpa using this
end Go.Proofs.NO
/- What a host tells. -/
namespace Go.Proofs.NO
open Go Go.Idl Go.Proofs
set_option maxHeartbeats 20000000
set_option maxRecDepth 100000
end Go.Proofs.NO
