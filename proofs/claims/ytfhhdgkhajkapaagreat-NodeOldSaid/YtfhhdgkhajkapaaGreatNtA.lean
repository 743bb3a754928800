/- Facts that the proofs of this claim lean on. -/
import Derived.Test.YtfhhdgkhajkapaaGreatNxDd
import Derived.Test.YtfhhdgkhajkapaaGreatNzP4
import Derived.Test.YtfhhdgkhajkapaaGreatGPm
import Derived.Test.YtfhhdgkhajkapaaGreatNGb
import Derived.Test.YtfhhdgkhajkapaaGreatNTypes
import Derived.Test.YtfhhdgkhajkapaaGreatIdRn
set_option linter.unusedSimpArgs false
set_option linter.unusedVariables false
/- A mark takes a message. -/
namespace Go.Proofs.NO
open Go Go.Idl Go.Proofs Go.GP Go.Proofs.Tryz
set_option maxHeartbeats 20000000
set_option maxRecDepth 100000
theorem qqf (p:Pc) (h:gPc p) (i0:Nat) (h0:i0 < p.inn.length):PG prog 170 [lPc p] [] 2
  (.agg [sci .i64 p.node,sci .i64 p.state,sci .i64 p.steps,lI p.sent, .ref 0 p.inn.length 0 p.inn.length,lLs p.out])
  [(0, .arr 1 p.inn.length (qav p.inn i0 1 p.inn[i0].length p.inn.length)),(1, .arr 2 0 (ir eII p.inn[i0]))]:=by
 obtain⟨h1,h2,h3,h4,h5⟩:=h
 refine pg_of 200 (fn:=f170) func170 rfl (by simp [ntmps170]) 0 rfl zC zC zC zC zC fun hs=>?_
 try refine zW ?_
 (refine zM [1,2,75] ?_;refine zI [none,none,none,none,none,none,none,none,some [0,1,2,3,4,5,9,10,12,13],none,none,some [0,1,2,3,4,5,12,13],none,none,some [0,1,2,3,4,5],none,some []] ?_)
 try refine zW ?_
 (refine zF ?_;refine callA_of (CloneI_spec _ h1) zB ?_)
 try refine zW ?_
 (refine qaM ?_;refine zW ?_;refine callG_of [] (qlE p.inn i0 h0 h4 h2) zU ?_)
 try refine zW ?_
 (refine zF ?_;refine callA_of (qeb _ h5 h3) zB ?_)
 (try simp (maxSteps:=2000000) (disch:=omega) only [go_sem,simprocAttr,zD,zE,qd0])
 refine⟨[2,3],⟨rfl,by simp [qau,qau.nin]⟩,rfl,?_⟩
 refine⟨⟨rfl,rfl,?_⟩,?_⟩
 ·rw [qdZ];exact qaO _
 ·exact⟨rfl,rfl,qaO _⟩
theorem qlQ {l:List (List (Int × Int))} {i0 a b k i:Nat}:rnRw (rsel 0 [a,b]) (qav l i0 1 k i)=qav l i0 b k i:=by
 unfold qav
 simp only [go_sem]
 rfl
theorem qq5 (m:Mk) (hg:gPc m.p) (ho:m.opn.length≤1000000) (i0:Nat) (h0:i0 < m.p.inn.length):PG prog 294 [lMk m] [] 2
  (.agg [sci .i64 m.epoch,lBo m.opn,sci .i64 m.p.node,sci .i64 m.p.state,sci .i64 m.p.steps,lI m.p.sent, .ref 0 m.p.inn.length 0 m.p.inn.length,lLs m.p.out])
  [(0, .arr 1 m.p.inn.length (qav m.p.inn i0 1 m.p.inn[i0].length m.p.inn.length)),(1, .arr 2 0 (ir eII m.p.inn[i0]))]:=by
 refine pg_of 200 (fn:=f294) func294 rfl (by simp [ntmps294]) 0 rfl zC zC zC zC zC fun hs=>?_
 (try simp (maxSteps:=2000000) (disch:=omega) only [go_sem,simprocAttr,zD,zE,maxLen])
 (refine zM [1,2,3,77] ?_;refine zI [none,none,none,none,none,some [0,1,2],none,some []] ?_)
 try refine zO ?_
 (refine qaM ?_;refine zW ?_;refine callG_of [] (qqf m.p hg i0 h0) zU ?_)
 (try simp (maxSteps:=2000000) (disch:=omega) only [go_sem,simprocAttr,zD,zE,qf2])
 refine⟨[3,4],⟨rfl,by simp [qau,qau.nin]⟩,⟨rfl,rfl⟩,?_⟩
 refine⟨⟨rfl,rfl,?_⟩,?_⟩
 ·rw [qlQ];exact qaO _
 ·exact⟨rfl,rfl,qaO _⟩
theorem qpG (m:Mk) (a:Int) (x:Int × Int) (hg:gPc m.p) (ho:m.opn.length=m.p.inn.length) (hi: ∀l∈m.p.inn,l.length≤999999):
  Pure prog 241 [lMk m,sci .i64 a, .agg [sci .i64 x.1,sci .i64 x.2]] (lMk (appM m a x)):=by
 have hil:=hg.inn
 refine pcall0 200 (fn:=f241) func241 rfl (by simp [ntmps241]) zB zB fun hs=>?_
 try refine zO ?_
 by_cases c1:a < 0
 ·have z:appM m a x=m:=by unfold appM;rw [if_pos (.inl c1)]
  rw [z]
  (refine zG ?_;refine callA_of (qe2 m a) zB ?_)
  (try simp (maxSteps:=2000000) (disch:=omega) only [go_sem,simprocAttr,zD,zE,c1])
 by_cases c2:(m.opn.length:Int)≤a
 ·have z:appM m a x=m:=by unfold appM;rw [if_pos (.inr (.inl c2))]
  rw [z]
  (refine zG ?_;refine callA_of (qe2 m a) zB ?_)
  (try simp (maxSteps:=2000000) (disch:=omega) only [go_sem,simprocAttr,zD,zE,c1,c2])
 obtain⟨k,rfl⟩:=Int.eq_ofNat_of_zero_le (show 0≤a by omega)
 have hk:k < m.opn.length:=by omega
 have hk2:k < m.p.inn.length:=by omega
 by_cases c3:m.opn[k]=true
 rotate_left
 ·have c3':m.opn[k]=false:=by simpa using c3
  have z:appM m k x=m:=by unfold appM;rw [if_pos (.inr (.inr (by rw [Int.toNat_natCast,List.getElem?_eq_getElem hk,c3'];simp)))]
  rw [z]
  (refine zG ?_;refine callA_of (qe2 m k) zB ?_)
  (try simp (maxSteps:=2000000) (disch:=omega) only [go_sem,simprocAttr,zD,zE,c1,c2,eB,c3'])
 have z:appM m k x=⟨m.epoch,m.opn,⟨m.p.node,m.p.state,m.p.steps,m.p.sent,m.p.inn.set k (m.p.inn[k]++ [x]),m.p.out⟩⟩:=by
  unfold appM
  rw [if_neg (by rw [Int.toNat_natCast,List.getElem?_eq_getElem hk,c3];intro q;rcases q with q | q | q;omega;omega;exact q rfl)]
  rw [Int.toNat_natCast,List.getElem?_eq_getElem hk2,Option.getD_some]
 rw [z]
 have hik:=hi _ (List.getElem_mem hk2)
 have hgo:=qq5 m hg (by omega) k hk2
 generalize m.p.inn[k]=row at hgo hik ⊢
 (refine zG ?_;refine callA_of (qe2 m k) zB ?_)
 (try simp (maxSteps:=2000000) (disch:=omega) only [go_sem,simprocAttr,zD,zE,c1,c2,eB,c3])
 obtain⟨x1,x2⟩:=x
 have hg1:=qii (l:=m.p.inn) (i0:=k) (b:=4) (n:=row.length) (i:=m.p.inn.length) hk2
 have hset:=qij (l:=m.p.inn) (i0:=k) (b:=4) (n:=row.length) hk2 (x:=row++ [(x1,x2)])
 have hnt:(ir eII (row++ [(x1,x2)])).take (row.length+1)=ir eII (row++ [(x1,x2)]):=List.take_of_length_le (by simp [ir])
 have hsn:ir eII (row++ [(x1,x2)])=ir eII row++ [[sci .i64 x1,sci .i64 x2]]:=by rw [ir_snoc];rfl
 (refine at_g 200 ?_;refine zW ?_;refine callG_of [] (hgo) zU ?_)
 (try simp (maxSteps:=2000000) (disch:=omega) only [go_sem,simprocAttr,zD,zE,qf2])
 (refine walk_trim [1,5,6,8,77] trivial zL ?_;((try refine zW ?_);(try with_reducible exact True.intro)))
 refine irun_walk (id:=5) (n:=0) [none,none,none,none,none,none,none,none,none,none,none,some [0,1,2,3,4,5,6,7,8,9],some [0,1,2,3],none,some []] mixed (by kernel_rfl) ?_
 (try simp (maxSteps:=2000000) (disch:=omega) only [go_sem,simprocAttr,zD,zE,hg1])
 rw [qi5]
 refine qbN 200 [4] ⟨41, [(6, .ptr 2 0 0 0),(8, .ptr 5 0 0 0)], [],6,
  [(5, .arr 8 0 [[sci .i64 m.epoch,lBo m.opn,sci .i64 m.p.node,sci .i64 m.p.state,sci .i64 m.p.steps,lI m.p.sent, .ref 3 m.p.inn.length 0 m.p.inn.length,lLs m.p.out]]),(3, .arr 1 m.p.inn.length (ir eMs (m.p.inn.set k (row++ [(x1,x2)])))),
   (2, .arr 8 0 [[sci .i64 0,nil0,sci .i64 0,sci .i64 0,sci .i64 0,nil0,nil0,nil0]])]⟩ trivial ?_ ?_
 ·constructor
  case blks=>
   try refine zO ?_
   rw [←hset]
   refine qqv ?_
   try refine zO ?_
   erw [←hsn,hnt]
   ((try refine zO ?_);(try with_reducible exact True.intro))
  all_goals((try refine zO ?_);(try with_reducible exact True.intro))
 try refine zO ?_
 rw [List.take_of_length_le (by simp)]
end Go.Proofs.NO
/- The document's graph: what each of its functions answers. -/
namespace Go.Proofs.NO
open Go Go.Idl Go.Proofs Go.GP Go.Proofs.Tryz
set_option maxHeartbeats 1000000
set_option maxRecDepth 100000
theorem qmR (N:Int) (ls:List (Int × Int)) (l:Int) (hl:ls.length≤1000000):Pure prog 32 [eG N ls,sci .i64 l] (sci .i64 (qaz ls l)):=by
 unfold qaz
 refine pcall0 200 (fn:=f32) func32 rfl (by simp [ntmps32]) zB zB fun hs=>?_
 try refine zW ?_
 by_cases h0:l < 0
 ·rw [dif_neg (by omega)]
  ((try refine zO ?_);(try with_reducible exact True.intro))
 ·obtain⟨l,rfl⟩:=Int.eq_ofNat_of_zero_le (show 0≤l by omega)
  by_cases h1:l < ls.length
  ·try refine zO ?_
   (refine zM [1,2] ?_;refine zI [none,none,none,none,none,none,none,none,none,none,none,none,none,some [],none] ?_)
   (try simp (disch:=omega) only [go_sem,simprocAttr,zD,zE,eII])
   (refine zF ?_;refine callA_of (qb4 _ _ _ _ (by omega)) zB ?_)
   try refine zO ?_
   rw [dif_pos h1]
  ·try refine zO ?_
   have: ¬(ls.length > l):=by omega
   (try simp (disch:=omega) only [go_sem,simprocAttr,zD,zE,this])
end Go.Proofs.NO
/- The functions of the tree and of its reference: what each answers. -/
namespace Go.Proofs.NO
open Go Go.Idl Go.Proofs Go.Proofs.Tryz
set_option maxHeartbeats 400000
set_option maxRecDepth 100000
abbrev eT (e u w:Int) (k:List Int):IV:= .agg [sci .i64 e,sci .i64 u,sci .i64 w,lI k]
theorem qoj (e o:Int):Pure prog 192 [sci .i64 e,sci .i64 o] (eT e (-1) (if o < 0 then 0 else o) []):=by
 refine pcall0 200 (fn:=f192) func192 rfl (by simp [ntmps192]) zB zB fun hs=>?_
 (repeat(first | ((refine zW ?_;try with_reducible exact True.intro))))
theorem qbC (e u w:Int) (k:List Int) (x:Int):Pure prog 295 [eT e u w k,sci .i64 x] (scb (e==x)):=by
 refine pcall0 200 (fn:=f295) func295 rfl (by simp [ntmps295]) zB zB fun hs=>?_
 (repeat(first | ((refine zW ?_;try with_reducible exact True.intro))))
theorem qqg (e u w:Int) (k:List Int):Pure prog 121 [eT e u w k] (eT e u w k):=by
 refine pcall0 200 (fn:=f121) func121 rfl (by simp [ntmps121]) zB zB fun hs=>?_
 (repeat(first | ((refine zW ?_;try with_reducible exact True.intro))))
theorem qcd (e u w:Int) (k:List Int) (x:Int):Pure prog 251 [eT e u w k,sci .i64 x] (scb (e==x && decide (w < 1))):=by
 refine pcall0 200 (fn:=f251) func251 rfl (by simp [ntmps251]) zB zB fun hs=>?_
 (repeat(first | ((refine zW ?_;try with_reducible exact True.intro)) | (refine zG ?_;refine callA_of (qbC _ _ _ _ _) zB ?_;((try refine zW ?_);(try with_reducible exact True.intro))) | (refine zF ?_;refine callA_of (qbC _ _ _ _ _) zB ?_;((try refine zW ?_);(try with_reducible exact True.intro))) | (refine zG ?_;refine qaG ?_;refine zW ?_;refine qaX (qbC _ _ _ _ _) (by first | rfl | (split<;>rfl)) ?_;((try refine zW ?_);(try with_reducible exact True.intro))) | (refine zF ?_;refine qaG ?_;refine zW ?_;refine qaX (qbC _ _ _ _ _) (by first | rfl | (split<;>rfl)) ?_;((try refine zW ?_);(try with_reducible exact True.intro)))))
 cases hb:e==x<;>((try refine zW ?_);(try with_reducible exact True.intro))
theorem qnW (e u w:Int) (k:List Int) (x l o:Int):Pure prog 244 [eT e u w k,sci .i64 x,sci .i64 l,sci .i64 o] (if e==x then .tup [eT e u w k,scb false] else .tup [eT x l (if o < 0 then 0 else o) [],scb true]):=by
 refine pcall0 200 (fn:=f244) func244 rfl (by simp [ntmps244]) zB zB fun hs=>?_
 (repeat(first | ((refine zW ?_;try with_reducible exact True.intro)) | (refine zG ?_;refine callA_of (qbC _ _ _ _ _) zB ?_;((try refine zW ?_);(try with_reducible exact True.intro))) | (refine zF ?_;refine callA_of (qbC _ _ _ _ _) zB ?_;((try refine zW ?_);(try with_reducible exact True.intro))) | (refine zG ?_;refine qaG ?_;refine zW ?_;refine qaX (qbC _ _ _ _ _) (by first | rfl | (split<;>rfl)) ?_;((try refine zW ?_);(try with_reducible exact True.intro))) | (refine zF ?_;refine qaG ?_;refine zW ?_;refine qaX (qbC _ _ _ _ _) (by first | rfl | (split<;>rfl)) ?_;((try refine zW ?_);(try with_reducible exact True.intro)))))
 cases hb:e==x<;>((try refine zW ?_);(try with_reducible exact True.intro))
theorem qol (e u w:Int) (k:List Int) (x l:Int) (y:Bool) (hw: -9223372036854775807≤w∧w≤9223372036854775807) (hk:k.length≤1000000000):Pure prog 246 [eT e u w k,sci .i64 x,sci .i64 l,scb y] (if(e==x && !decide (w < 1))=true then .tup [eT e u (w - 1) (k++if y then [l] else []),sci .i64 0] else .tup [eT 0 0 0 [],sci .i64 1]):=by
 refine pcall0 200 (fn:=f246) func246 rfl (by simp [ntmps246]) zB zB fun hs=>?_
 (repeat(first | ((refine zW ?_;try with_reducible exact True.intro)) | (refine zG ?_;refine callA_of (qbC _ _ _ _ _) zB ?_;((try refine zW ?_);(try with_reducible exact True.intro))) | (refine zF ?_;refine callA_of (qbC _ _ _ _ _) zB ?_;((try refine zW ?_);(try with_reducible exact True.intro))) | (refine zG ?_;refine qaG ?_;refine zW ?_;refine qaX (qbC _ _ _ _ _) (by first | rfl | (split<;>rfl)) ?_;((try refine zW ?_);(try with_reducible exact True.intro))) | (refine zF ?_;refine qaG ?_;refine zW ?_;refine qaX (qbC _ _ _ _ _) (by first | rfl | (split<;>rfl)) ?_;((try refine zW ?_);(try with_reducible exact True.intro)))))
 cases hb:e==x<;>((try refine zW ?_);(try with_reducible exact True.intro))
 by_cases hc:w < 1<;>((try refine zO ?_);(try with_reducible exact True.intro))
 cases y<;>((try refine zO ?_);(try with_reducible exact True.intro))
theorem Same_specH (e u w:Int) (k:List Int) (e' u' w':Int) (k':List Int):Pure prog 116 [eT e u w k,eT e' u' w' k'] (scb (e==e' && u==u' && w==w' && k==k')):=by
 refine pcall0 200 (fn:=f116) func116 rfl (by simp [ntmps116]) zB zB fun hs=>?_
 try refine zW ?_
 cases h1:e==e'<;>((try refine zW ?_);(try with_reducible exact True.intro))
 cases h2:u==u'<;>((try refine zW ?_);(try with_reducible exact True.intro))
 cases h3:w==w'<;>((try refine zW ?_);(try with_reducible exact True.intro))
 (repeat(first | ((refine zW ?_;try with_reducible exact True.intro)) | (refine zG ?_;refine callA_of (qcK _ _) zB ?_;((try refine zW ?_);(try with_reducible exact True.intro))) | (refine zF ?_;refine callA_of (qcK _ _) zB ?_;((try refine zW ?_);(try with_reducible exact True.intro))) | (refine zG ?_;refine qaG ?_;refine zW ?_;refine qaX (qcK _ _) (by first | rfl | (split<;>rfl)) ?_;((try refine zW ?_);(try with_reducible exact True.intro))) | (refine zF ?_;refine qaG ?_;refine zW ?_;refine qaX (qcK _ _) (by first | rfl | (split<;>rfl)) ?_;((try refine zW ?_);(try with_reducible exact True.intro)))))
end Go.Proofs.NO
