/- Facts that the proofs of this claim lean on. -/
import Derived.Test.YteebghpjgcacmaaGreatYPD
import Derived.Test.YteebghpjgcacmaaGreatYX
set_option linter.unusedSimpArgs false
set_option linter.unusedVariables false
/- What a node may tell: the program's answer. -/
namespace Go.Proofs.GY
open Go Go.Idl Go.Proofs
set_option maxHeartbeats 20000000
set_option maxRecDepth 100000
def MsgP (last:Int) (x:Int × Int):Prop:=last < x.1∧x.1≤500∧0≤x.2∧x.2≤3
def RisP:Int→List (Int × Int)→Prop
 | _, []=>True
 | last,x::r=>MsgP last x∧RisP x.1 r
def LetsP (l:List Int):Prop:= ∀(j:Nat) (x:Int),j < l.length→l[j]? =some x→0≤x∧x≤3
def ToldP (p:Pc):Prop:=0≤p.steps∧p.steps≤2147483647∧p.sent.length≤5∧p.inn.length≤5∧p.out.length≤5∧(∀(j:Nat) (x:Int),j < p.sent.length→p.sent[j]? =some x→0≤x∧x≤500)∧(∀(j:Nat) (l:List (Int × Int)),j < p.inn.length→p.inn[j]? =some l→RisP 0 l)∧ ∀(j:Nat) (l:List Int),j < p.out.length→p.out[j]? =some l→l.length≤500∧LetsP l
def PieceP (p:Pc):Prop:=(0≤p.node∧p.node≤5)∧(0≤p.state∧p.state≤7)∧ToldP p
theorem pwithin_spec (n m:Int):Pure Tryz.prog 94 [sci .i64 n,sci .i64 m] (scb (tB (0≤n∧n≤m))):=by
 refine pcall0 200 (fn:=Tryz.f94) Tryz.func94 rfl (by simp [Tryz.ntmps94]) zB zB fun hs=>?_
 ((try refine zW ?_);(try with_reducible exact True.intro))
 by_cases h1:0≤n
 ·by_cases h2:n≤m
  ·have e:tB (0≤n∧n≤m)=true:=tB_pos ⟨h1,h2⟩
   (try simp (disch:=omega) only [go_sem,simprocAttr,zD,zE,e])
  ·have e:tB (0≤n∧n≤m)=false:=tB_neg fun q=>h2 q.2
   (try simp (disch:=omega) only [go_sem,simprocAttr,zD,zE,e])
 ·have e:tB (0≤n∧n≤m)=false:=tB_neg fun q=>h1 q.1
  (try simp (disch:=omega) only [go_sem,simprocAttr,zD,zE,e])
theorem Right1_spec (n:Int):Pure Tryz.prog 96 [sci .i64 n] (scb (!tB (0≤n∧n≤3))):=by
 refine pcall0 200 (fn:=Tryz.f96) Tryz.func96 rfl (by simp [Tryz.ntmps96]) zB zB fun hs=>?_
 ((try refine zW ?_);(try with_reducible exact True.intro))
 (refine at_call 200 ?_;(refine zW ?_;try with_reducible exact True.intro);refine callA_of (pwithin_spec n 3) zB ?_;((try refine zW ?_);(try with_reducible exact True.intro)))
 ((try refine zO ?_);(try with_reducible exact True.intro))
theorem rising_spec (l:List (Int × Int)):Pure Tryz.prog 95 [lII l] (scb (tB (RisP 0 l))):=by
 refine pcall0 200 (fn:=Tryz.f95) Tryz.func95 rfl (by simp [Tryz.ntmps95]) zB zB fun hs=>?_
 simp only [go_sem,simprocAttr,maxLen] at hs
 obtain⟨ha, -⟩:=hs
 ((try refine zW ?_);(try with_reducible exact True.intro))
 (refine walk_trim [3,6,7,8] trivial zL ?_;((try refine zW ?_);(try with_reducible exact True.intro)))
 refine walk_loop 200 200 (fun s:Nat × Int=>s.1≤l.length∧(RisP s.2 (l.drop s.1)↔RisP 0 l)) (fun s=>⟨30, [(3,sci .i64 s.2),(6,lII l),(7,sci .i64 l.length),(8,sci .i64 s.1)], [],0, []⟩) (fun s=>l.length - s.1) (0,0) ?_ ?_ ?_
 ·simp
 ·constructor<;>(try simp (disch:=omega) only [go_sem,simprocAttr,zD,zE,Int.natCast_zero])
 ·rintro⟨i,last⟩ ⟨h1,h2⟩
  simp only at h1 h2
  ((try refine zW ?_);(try with_reducible exact True.intro))
  by_cases hl:i < l.length
  ·have e0:l.drop i=l[i]::l.drop (i+1):=List.drop_eq_getElem_cons hl
   rw [e0] at h2
   (try simp (disch:=omega) only [go_sem,simprocAttr,zD,zE,eII])
   generalize l[i]=x at *
   obtain⟨sq,lt⟩:=x
   have bad: ¬MsgP last (sq,lt)→tB (RisP 0 l)=false:=fun q=>tB_neg fun h=>q (h2.2 h).1
   by_cases g1:sq≤last
   ·have e:=bad fun q=>by have:=q.1;simp only at this;omega
    (try simp (disch:=omega) only [go_sem,simprocAttr,zD,zE,g1,e])
   by_cases g2:500 < sq
   ·have e:=bad fun q=>by have:=q.2.1;simp only at this;omega
    (try simp (disch:=omega) only [go_sem,simprocAttr,zD,zE,g1,g2,e])
   (try simp (disch:=omega) only [go_sem,simprocAttr,zD,zE,g1,g2])
   (refine at_call 200 ?_;(refine zW ?_;try with_reducible exact True.intro);refine callA_of (pwithin_spec lt 3) zB ?_;((try refine zW ?_);(try with_reducible exact True.intro)))
   by_cases g3:0≤lt∧lt≤3
   ·have e:tB (0≤lt∧lt≤3)=true:=tB_pos g3
    (try simp (disch:=omega) only [go_sem,simprocAttr,zD,zE,e])
    refine⟨(i+1,sq),⟨hl,⟨fun q=>h2.1 ⟨⟨by simp only;omega,by simp only;omega,g3⟩,q⟩,fun q=>(h2.2 q).2⟩⟩,by simp only;omega,?_⟩
    constructor<;>((try refine zO ?_);(try with_reducible exact True.intro))
   ·have e:tB (0≤lt∧lt≤3)=false:=tB_neg g3
    have e2:=bad fun q=>g3 q.2.2
    (try simp (disch:=omega) only [go_sem,simprocAttr,zD,zE,e,e2])
  ·obtain rfl:i=l.length:=by omega
   have e:tB (RisP 0 l)=true:=tB_pos (h2.1 (by rw [List.drop_length];trivial))
   (try simp (disch:=omega) only [go_sem,simprocAttr,zD,zE,e])
end Go.Proofs.GY
/- What a node may tell: the program's answer, joined. -/
namespace Go.Proofs.GY
open Go Go.Idl Go.Proofs
set_option maxHeartbeats 20000000
set_option maxRecDepth 100000
abbrev fR1:IV:= .p (.sc (.func (.func 96) #[] #[]))
theorem idxL_spec (l:List Int) (hk:l.length≤1000000):Pure Tryz.prog 129 [lI l,fR1]
  (sci .i64 (firstB (fun x=>!tB (0≤x∧x≤3)) 0 l)):=by
 refine pcall0 200 (fn:=Tryz.f129) Tryz.func129 rfl (by simp [Tryz.ntmps129]) zB zB fun hs=>?_
 ((try refine zW ?_);(try with_reducible exact True.intro))
 refine walk_floop 200 200 (fun i:Nat=>i≤l.length∧firstB (fun x=>!tB (0≤x∧x≤3)) i (l.drop i)=firstB (fun x=>!tB (0≤x∧x≤3)) 0 l)
  (fun i=>⟨19, [(0,lI l),(1,fR1),(7,sci .i64 l.length),(8,sci .i64 i)], [],0, []⟩) (fun i=>l.length - i) (0) [] ?_ ?_ ?_
 ·simp
 ·constructor<;>(try simp (disch:=omega) only [go_sem,simprocAttr,zD,zE,Int.natCast_zero,List.take_of_length_le,List.append_assoc])
 ·rintro i hi
  obtain⟨hi,hinvi⟩:=hi
  ((try refine zW ?_);(try with_reducible exact True.intro))
  by_cases li:i < l.length
  ·rw [drop_cons li,firstB] at hinvi
   (try simp (disch:=omega) only [go_sem,simprocAttr,zD,zE,eI])
   (refine at_call 200 ?_;(refine zW ?_;try with_reducible exact True.intro);refine callA_of (Right1_spec l[i]) zB ?_;((try refine zW ?_);(try with_reducible exact True.intro)))
   cases e:tB (0≤l[i]∧l[i]≤3)
   ·simp only [e,Bool.not_false,if_true] at hinvi
    (try simp (disch:=omega) only [go_sem,simprocAttr,zD,zE,←hinvi])
   ·simp only [e,Bool.not_true,Bool.false_eq_true,if_false] at hinvi
    ((try refine zO ?_);(try with_reducible exact True.intro))
    refine⟨i+1, [],⟨by first | assumption | omega,hinvi⟩,?_,?_⟩
    ·(try simp only []);omega
    ·constructor<;>(try simp (disch:=omega) only [go_sem,simprocAttr,zD,zE,List.append_assoc])
  ·obtain rfl:i=l.length:=by omega
   rw [List.drop_length] at hinvi
   (try simp (disch:=omega) only [go_sem,simprocAttr,zD,zE,←hinvi,firstB])
theorem hasL_spec (l:List Int) (hk:l.length≤1000000):Pure Tryz.prog 97 [lI l,fR1] (scb (!tB (LetsP l))):=by
 have e:decide (0≤firstB (fun x=>!tB (0≤x∧x≤3)) 0 l)= !tB (LetsP l):=by
  rw [tB_not,←tB_dec]
  refine tB_congr ?_
  rw [firstB_iff]
  constructor
  ·rintro⟨x,hx,h⟩ q
   obtain⟨j,hj,rfl⟩:=List.getElem_of_mem hx
   have:=q j _ hj (List.getElem?_eq_getElem hj)
   rw [tB_pos this] at h;cases h
  ·intro h
   refine Classical.byContradiction fun q=>h fun j x _ hx=>?_
   have hm:x∈l:=List.mem_of_getElem? hx
   refine Classical.byContradiction fun q2=>q ⟨x,hm,?_⟩
   rw [tB_neg q2];rfl
 refine pcall0 200 (fn:=Tryz.f97) Tryz.func97 rfl (by simp [Tryz.ntmps97]) zB zB fun hs=>?_
 ((try refine zW ?_);(try with_reducible exact True.intro))
 (refine at_call 200 ?_;(refine zW ?_;try with_reducible exact True.intro);refine callA_of (idxL_spec l hk) zB ?_;((try refine zW ?_);(try with_reducible exact True.intro)))
 (try simp (disch:=omega) only [go_sem,simprocAttr,zD,zE,e])
theorem pRight_spec (h:Pc) (hg:gPc h):Pure Tryz.prog 52 [lPc h] (scb (tB (PieceP h))):=by
 obtain⟨node,state,steps,sent,inn,out⟩:=h
 obtain⟨b1,b2,b3,b4,b5⟩:=hg
 simp only at b1 b2 b3 b4 b5
 have bad: ∀ {q:Prop},(PieceP ⟨node,state,steps,sent,inn,out⟩→q)→ ¬q→tB (PieceP ⟨node,state,steps,sent,inn,out⟩)=false:=fun f g=>tB_neg fun h=>g (f h)
 refine pcall0 200 (fn:=Tryz.f52) Tryz.func52 rfl (by simp [Tryz.ntmps52]) zB zB fun hs=>?_
 ((try refine zW ?_);(try with_reducible exact True.intro))
 (refine at_call 200 ?_;(refine zW ?_;try with_reducible exact True.intro);refine callA_of (pwithin_spec node 5) zB ?_;((try refine zW ?_);(try with_reducible exact True.intro)))
 by_cases hn:0≤node∧node≤5
 rotate_left
 ·have en:tB (0≤node∧node≤5)=false:=tB_neg hn
  have e:=bad (fun q=>q.1) hn
  (try simp (maxSteps:=2000000) (disch:=omega) only [go_sem,simprocAttr,zD,zE,en,e])
 have en:tB (0≤node∧node≤5)=true:=tB_pos hn
 (try simp (maxSteps:=2000000) (disch:=omega) only [go_sem,simprocAttr,zD,zE,en])
 (refine at_call 200 ?_;(refine zW ?_;try with_reducible exact True.intro);refine callA_of (pwithin_spec state 7) zB ?_;((try refine zW ?_);(try with_reducible exact True.intro)))
 by_cases hs:0≤state∧state≤7
 rotate_left
 ·have es:tB (0≤state∧state≤7)=false:=tB_neg hs
  have e:=bad (fun q=>q.2.1) hs
  (try simp (maxSteps:=2000000) (disch:=omega) only [go_sem,simprocAttr,zD,zE,es,e])
 have es:tB (0≤state∧state≤7)=true:=tB_pos hs
 (try simp (maxSteps:=2000000) (disch:=omega) only [go_sem,simprocAttr,zD,zE,es])
 (refine at_call 200 ?_;(refine zW ?_;try with_reducible exact True.intro);refine callA_of (pwithin_spec steps 2147483647) zB ?_;((try refine zW ?_);(try with_reducible exact True.intro)))
 by_cases h1:0≤steps∧steps≤2147483647
 ·have e1:tB (0≤steps∧steps≤2147483647)=true:=tB_pos h1
  by_cases h0:5 < sent.length
  ·have e:=bad (fun q=>q.2.2.2.2.1) (by simp only;omega)
   (try simp (maxSteps:=2000000) (disch:=omega) only [go_sem,simprocAttr,zD,zE,e1,e])
  by_cases h2:5 < inn.length
  ·have e:=bad (fun q=>q.2.2.2.2.2.1) (by simp only;omega)
   (try simp (maxSteps:=2000000) (disch:=omega) only [go_sem,simprocAttr,zD,zE,e1,e])
  by_cases h3:5 < out.length
  ·have e:=bad (fun q=>q.2.2.2.2.2.2.1) (by simp only;omega)
   (try simp (maxSteps:=2000000) (disch:=omega) only [go_sem,simprocAttr,zD,zE,e1,e])
  (try simp (maxSteps:=2000000) (disch:=omega) only [go_sem,simprocAttr,zD,zE,e1])
  (refine walk_trim [1,40,41,42] trivial zL ?_;((try refine zW ?_);(try with_reducible exact True.intro)))
  refine walk_floop 200 200 (fun i:Nat=>i≤sent.length∧ ∀(k:Nat) (x:Int),k < i→sent[k]? =some x→0≤x∧x≤500)
   (fun i=>⟨77, [(1, .ptr 0 0 0 0),(40,lI sent),(41,sci .i64 sent.length),(42,sci .i64 i)], [],1, [(0, .arr 6 0 [[sci .i64 node,sci .i64 state,sci .i64 steps,lI sent,lMs inn,lLs out]])]⟩) (fun i=>sent.length - i) (0) [] ?_ ?_ ?_
  ·simp
  ·constructor<;>(try simp (maxSteps:=2000000) (disch:=omega) only [go_sem,simprocAttr,zD,zE,Int.natCast_zero,List.take_of_length_le,List.append_assoc])
  ·rintro i hi
   obtain⟨hi,hinvi⟩:=hi
   ((try refine zW ?_);(try with_reducible exact True.intro))
   by_cases li:i < sent.length
   ·have sn:=all_snoc li hinvi
    have bd: ¬(0≤sent[i]∧sent[i]≤500)→tB (PieceP ⟨node,state,steps,sent,inn,out⟩)=false:=fun q=>tB_neg fun h=>q (h.2.2.2.2.2.2.2.1 i _ li (List.getElem?_eq_getElem li))
    (try simp (maxSteps:=2000000) (disch:=omega) only [go_sem,simprocAttr,zD,zE,eI])
    (refine at_call 200 ?_;(refine zW ?_;try with_reducible exact True.intro);refine callA_of (pwithin_spec sent[i] 500) zB ?_;((try refine zW ?_);(try with_reducible exact True.intro)))
    by_cases g:0≤sent[i]∧sent[i]≤500
    ·have e:=tB_pos g
     (try simp (maxSteps:=2000000) (disch:=omega) only [go_sem,simprocAttr,zD,zE,e])
     refine⟨i+1, [],⟨li,sn g⟩,by omega,?_⟩
     constructor<;>((try refine zO ?_);(try with_reducible exact True.intro))
    ·have e:=tB_neg g
     have e2:=bd g
     (try simp (maxSteps:=2000000) (disch:=omega) only [go_sem,simprocAttr,zD,zE,e,e2])
   ·obtain rfl:i=sent.length:=by omega
    ((try refine zO ?_);(try with_reducible exact True.intro))
    (refine walk_trim [1,51,52,53] trivial zL ?_;((try refine zW ?_);(try with_reducible exact True.intro)))
    refine walk_floop 200 200 (fun j:Nat=>j≤inn.length∧ ∀(k:Nat) (l:List (Int × Int)),k < j→inn[k]? =some l→RisP 0 l)
     (fun j=>⟨77, [(1, .ptr 0 0 0 0),(51,lMs inn),(52,sci .i64 inn.length),(53,sci .i64 j)], [],1, [(0, .arr 6 0 [[sci .i64 node,sci .i64 state,sci .i64 steps,lI sent,lMs inn,lLs out]])]⟩) (fun j=>inn.length - j) (0) [] ?_ ?_ ?_
    ·simp
    ·constructor<;>(try simp (maxSteps:=2000000) (disch:=omega) only [go_sem,simprocAttr,zD,zE,Int.natCast_zero,List.take_of_length_le,List.append_assoc])
    ·rintro j hj
     obtain⟨hj,hinvj⟩:=hj
     ((try refine zW ?_);(try with_reducible exact True.intro))
     by_cases lj:j < inn.length
     ·have sn:=all_snoc lj hinvj
      have bd: ¬RisP 0 inn[j]→tB (PieceP ⟨node,state,steps,sent,inn,out⟩)=false:=fun q=>tB_neg fun h=>q (h.2.2.2.2.2.2.2.2.1 j _ lj (List.getElem?_eq_getElem lj))
      (try simp (maxSteps:=2000000) (disch:=omega) only [go_sem,simprocAttr,zD,zE,eMs])
      (refine at_call 200 ?_;(refine zW ?_;try with_reducible exact True.intro);refine callA_of (rising_spec inn[j]) zB ?_;((try refine zW ?_);(try with_reducible exact True.intro)))
      by_cases g:RisP 0 inn[j]
      ·have e:=tB_pos g
       (try simp (maxSteps:=2000000) (disch:=omega) only [go_sem,simprocAttr,zD,zE,e])
       refine⟨j+1, [],⟨lj,sn g⟩,by omega,?_⟩
       constructor<;>((try refine zO ?_);(try with_reducible exact True.intro))
      ·have e:=tB_neg g
       have e2:=bd g
       (try simp (maxSteps:=2000000) (disch:=omega) only [go_sem,simprocAttr,zD,zE,e,e2])
     ·obtain rfl:j=inn.length:=by omega
      ((try refine zO ?_);(try with_reducible exact True.intro))
      (refine walk_trim [7,62,63,64] trivial zL ?_;((try refine zW ?_);(try with_reducible exact True.intro)))
      refine walk_floop 200 200 (fun k:Nat=>k≤out.length∧ ∀(m:Nat) (l:List Int),m < k→out[m]? =some l→l.length≤500∧LetsP l)
       (fun k=>⟨77, [(7,fR1),(62,lLs out),(63,sci .i64 out.length),(64,sci .i64 k)], [],1, [(0, .arr 6 0 [[sci .i64 node,sci .i64 state,sci .i64 steps,lI sent,lMs inn,lLs out]])]⟩) (fun k=>out.length - k) (0) [] ?_ ?_ ?_
      ·simp
      ·constructor<;>(try simp (maxSteps:=2000000) (disch:=omega) only [go_sem,simprocAttr,zD,zE,Int.natCast_zero,List.take_of_length_le,List.append_assoc])
      ·rintro k hk
       obtain⟨hk,hinvk⟩:=hk
       ((try refine zW ?_);(try with_reducible exact True.intro))
       by_cases lk:k < out.length
       ·have sn:=all_snoc lk hinvk
        have bd: ¬(out[k].length≤500∧LetsP out[k])→tB (PieceP ⟨node,state,steps,sent,inn,out⟩)=false:=fun q=>tB_neg fun h=>q (h.2.2.2.2.2.2.2.2.2 k _ lk (List.getElem?_eq_getElem lk))
        have ho:=b5 out[k] (List.getElem_mem lk)
        (try simp (maxSteps:=2000000) (disch:=omega) only [go_sem,simprocAttr,zD,zE,eLs])
        generalize out[k]=x at *
        by_cases g1:500 < x.length
        ·have e2:=bd fun q=>by have:=q.1;omega
         (try simp (maxSteps:=2000000) (disch:=omega) only [go_sem,simprocAttr,zD,zE,e2])
        ((try refine zO ?_);(try with_reducible exact True.intro))
        (refine at_call 200 ?_;(refine zW ?_;try with_reducible exact True.intro);refine callA_of (hasL_spec x ho) zB ?_;((try refine zW ?_);(try with_reducible exact True.intro)))
        by_cases g:LetsP x
        ·have e:=tB_pos g
         (try simp (maxSteps:=2000000) (disch:=omega) only [go_sem,simprocAttr,zD,zE,e])
         refine⟨k+1, [],⟨lk,sn ⟨by omega,g⟩⟩,by omega,?_⟩
         constructor<;>((try refine zO ?_);(try with_reducible exact True.intro))
        ·have e:=tB_neg g
         have e2:=bd fun q=>g q.2
         (try simp (maxSteps:=2000000) (disch:=omega) only [go_sem,simprocAttr,zD,zE,e,e2])
       ·obtain rfl:k=out.length:=by omega
        have e:tB (PieceP ⟨node,state,steps,sent,inn,out⟩)=true:=tB_pos ⟨hn,hs,h1.1,h1.2,by simp only;omega,by simp only;omega,by simp only;omega,hinvi,hinvj,hinvk⟩
        (try simp (maxSteps:=2000000) (disch:=omega) only [go_sem,simprocAttr,zD,zE,e])
 ·have e1:tB (0≤steps∧steps≤2147483647)=false:=tB_neg h1
  have e:=bad (fun q=>⟨q.2.2.1,q.2.2.2.1⟩) h1
  (try simp (maxSteps:=2000000) (disch:=omega) only [go_sem,simprocAttr,zD,zE,e1,e])
end Go.Proofs.GY
/- What a node may tell: the document's answer. -/
namespace Go.Proofs.GY
open Go Go.Idl Go.Proofs
set_option maxHeartbeats 20000000
set_option maxRecDepth 100000
theorem R6Right_spec (h:Pc) (hg:gPc h):Pure Tryz.prog 55 [lPc h] (scb (tB (PieceP h))):=by
 obtain⟨node,state,steps,sent,inn,out⟩:=h
 obtain⟨b1,b2,b3,b4,b5⟩:=hg
 simp only at b1 b2 b3 b4 b5
 have bad: ∀ {q:Prop},(PieceP ⟨node,state,steps,sent,inn,out⟩→q)→ ¬q→tB (PieceP ⟨node,state,steps,sent,inn,out⟩)=false:=fun f g=>tB_neg fun h=>g (f h)
 refine pcall0 200 (fn:=Tryz.f55) Tryz.func55 rfl (by simp [Tryz.ntmps55]) zB zB fun hs=>?_
 ((try refine zW ?_);(try with_reducible exact True.intro))
 by_cases n0:node < 0
 ·have e:=bad (fun q=>q.1) (by simp only;omega)
  (try simp (maxSteps:=2000000) (disch:=omega) only [go_sem,simprocAttr,zD,zE,e])
 by_cases n1:5 < node
 ·have e:=bad (fun q=>q.1) (by simp only;omega)
  (try simp (maxSteps:=2000000) (disch:=omega) only [go_sem,simprocAttr,zD,zE,e])
 by_cases s0:state < 0
 ·have e:=bad (fun q=>q.2.1) (by simp only;omega)
  (try simp (maxSteps:=2000000) (disch:=omega) only [go_sem,simprocAttr,zD,zE,e])
 by_cases s1:7 < state
 ·have e:=bad (fun q=>q.2.1) (by simp only;omega)
  (try simp (maxSteps:=2000000) (disch:=omega) only [go_sem,simprocAttr,zD,zE,e])
 by_cases h0:steps < 0
 ·have e:=bad (fun q=>q.2.2.1) (by simp only;omega)
  (try simp (maxSteps:=2000000) (disch:=omega) only [go_sem,simprocAttr,zD,zE,e])
 by_cases h1:2147483647 < steps
 ·have e:=bad (fun q=>q.2.2.2.1) (by simp only;omega)
  (try simp (maxSteps:=2000000) (disch:=omega) only [go_sem,simprocAttr,zD,zE,e])
 by_cases h00:5 < sent.length
 ·have e:=bad (fun q=>q.2.2.2.2.1) (by simp only;omega)
  (try simp (maxSteps:=2000000) (disch:=omega) only [go_sem,simprocAttr,zD,zE,e])
 by_cases h2:5 < inn.length
 ·have e:=bad (fun q=>q.2.2.2.2.2.1) (by simp only;omega)
  (try simp (maxSteps:=2000000) (disch:=omega) only [go_sem,simprocAttr,zD,zE,e])
 by_cases h3:5 < out.length
 ·have e:=bad (fun q=>q.2.2.2.2.2.2.1) (by simp only;omega)
  (try simp (maxSteps:=2000000) (disch:=omega) only [go_sem,simprocAttr,zD,zE,e])
 ((try refine zO ?_);(try with_reducible exact True.intro))
 (refine walk_trim [1,3] trivial zL ?_;((try refine zW ?_);(try with_reducible exact True.intro)))
 refine walk_floop 200 200 (fun i:Nat=>i≤sent.length∧ ∀(k:Nat) (x:Int),k < i→sent[k]? =some x→0≤x∧x≤500)
  (fun i=>⟨167, [(1, .ptr 0 0 0 0),(3,sci .i64 i)], [],1, [(0, .arr 6 0 [[sci .i64 node,sci .i64 state,sci .i64 steps,lI sent,lMs inn,lLs out]])]⟩) (fun i=>sent.length - i) (0) [] ?_ ?_ ?_
 ·simp
 ·constructor<;>(try simp (maxSteps:=2000000) (disch:=omega) only [go_sem,simprocAttr,zD,zE,Int.natCast_zero,List.take_of_length_le,List.append_assoc])
 ·rintro i hi
  obtain⟨hi,hinvi⟩:=hi
  ((try refine zW ?_);(try with_reducible exact True.intro))
  by_cases li:i < sent.length
  ·have sn:=all_snoc li hinvi
   have bd: ¬(0≤sent[i]∧sent[i]≤500)→tB (PieceP ⟨node,state,steps,sent,inn,out⟩)=false:=fun q=>tB_neg fun h=>q (h.2.2.2.2.2.2.2.1 i _ li (List.getElem?_eq_getElem li))
   generalize hy:sent[i]=y at *
   by_cases g2:y < 0
   ·have e2:=bd fun q=>by have:=q.1;omega
    (try simp (maxSteps:=2000000) (disch:=omega) only [go_sem,simprocAttr,zD,zE,eI,hy,g2,e2])
   by_cases g3:500 < y
   ·have e2:=bd fun q=>by have:=q.2;omega
    (try simp (maxSteps:=2000000) (disch:=omega) only [go_sem,simprocAttr,zD,zE,eI,hy,g2,g3,e2])
   (try simp (maxSteps:=2000000) (disch:=omega) only [go_sem,simprocAttr,zD,zE,eI,hy,g2,g3])
   refine⟨i+1, [],⟨li,sn ⟨by omega,by omega⟩⟩,by omega,?_⟩
   constructor<;>((try refine zO ?_);(try with_reducible exact True.intro))
  ·obtain rfl:i=sent.length:=by omega
   ((try refine zO ?_);(try with_reducible exact True.intro))
   (refine walk_trim [1,4] trivial zL ?_;((try refine zW ?_);(try with_reducible exact True.intro)))
   refine walk_floop 200 200 (fun j:Nat=>j≤inn.length∧ ∀(k:Nat) (l:List (Int × Int)),k < j→inn[k]? =some l→RisP 0 l)
    (fun j=>⟨167, [(1, .ptr 0 0 0 0),(4,sci .i64 j)], [],1, [(0, .arr 6 0 [[sci .i64 node,sci .i64 state,sci .i64 steps,lI sent,lMs inn,lLs out]])]⟩) (fun j=>inn.length - j) (0) [] ?_ ?_ ?_
   ·simp
   ·constructor<;>(try simp (maxSteps:=2000000) (disch:=omega) only [go_sem,simprocAttr,zD,zE,Int.natCast_zero,List.take_of_length_le,List.append_assoc])
   ·rintro j hj
    obtain⟨hj,hinvj⟩:=hj
    ((try refine zW ?_);(try with_reducible exact True.intro))
    by_cases lj:j < inn.length
    ·have sn:=all_snoc lj hinvj
     have hb:=b4 inn[j] (List.getElem_mem lj)
     have bd: ¬RisP 0 inn[j]→tB (PieceP ⟨node,state,steps,sent,inn,out⟩)=false:=fun q=>tB_neg fun h=>q (h.2.2.2.2.2.2.2.2.1 j _ lj (List.getElem?_eq_getElem lj))
     generalize hl:inn[j]=l at *
     (try simp (maxSteps:=2000000) (disch:=omega) only [go_sem,simprocAttr,zD,zE,eMs,hl])
     (refine walk_trim [1,4,5,6] trivial zL ?_;((try refine zW ?_);(try with_reducible exact True.intro)))
     refine walk_loop 200 200 (fun s:Nat × Int=>s.1≤l.length∧(RisP s.2 (l.drop s.1)↔RisP 0 l)) (fun s=>⟨167, [(1, .ptr 0 0 0 0),(4,sci .i64 j),(5,sci .i64 s.2),(6,sci .i64 s.1)], [],1, [(0, .arr 6 0 [[sci .i64 node,sci .i64 state,sci .i64 steps,lI sent,lMs inn,lLs out]])]⟩) (fun s=>l.length - s.1) (0,0) ?_ ?_ ?_
     ·simp
     ·constructor<;>(try simp (maxSteps:=2000000) (disch:=omega) only [go_sem,simprocAttr,zD,zE,Int.natCast_zero])
     ·rintro⟨i,last⟩ ⟨k1,k2⟩
      simp only at k1 k2
      ((try refine zW ?_);(try with_reducible exact True.intro))
      by_cases hi:i < l.length
      ·have e0:l.drop i=l[i]::l.drop (i+1):=List.drop_eq_getElem_cons hi
       rw [e0] at k2
       have bad2: ¬MsgP last l[i]→tB (PieceP ⟨node,state,steps,sent,inn,out⟩)=false:=fun q=>bd fun h=>q (k2.2 h).1
       (try simp (maxSteps:=2000000) (disch:=omega) only [go_sem,simprocAttr,zD,zE,eMs,hl,eII])
       generalize l[i]=x at *
       obtain⟨sq,lt⟩:=x
       by_cases g1:sq≤last
       ·have e:=bad2 fun q=>by have:=q.1;simp only at this;omega
        (try simp (maxSteps:=2000000) (disch:=omega) only [go_sem,simprocAttr,zD,zE,g1,e])
       by_cases g2:500 < sq
       ·have e:=bad2 fun q=>by have:=q.2.1;simp only at this;omega
        (try simp (maxSteps:=2000000) (disch:=omega) only [go_sem,simprocAttr,zD,zE,g1,g2,e])
       by_cases g3:lt < 0
       ·have e:=bad2 fun q=>by have:=q.2.2.1;simp only at this;omega
        (try simp (maxSteps:=2000000) (disch:=omega) only [go_sem,simprocAttr,zD,zE,g1,g2,g3,e])
       by_cases g4:3 < lt
       ·have e:=bad2 fun q=>by have:=q.2.2.2;simp only at this;omega
        (try simp (maxSteps:=2000000) (disch:=omega) only [go_sem,simprocAttr,zD,zE,g1,g2,g3,g4,e])
       (try simp (maxSteps:=2000000) (disch:=omega) only [go_sem,simprocAttr,zD,zE,g1,g2,g3,g4])
       refine⟨(i+1,sq),⟨hi,⟨fun q=>k2.1 ⟨⟨by simp only;omega,by simp only;omega,by simp only;omega,by simp only;omega⟩,q⟩,fun q=>(k2.2 q).2⟩⟩,by simp only;omega,?_⟩
       constructor<;>((try refine zO ?_);(try with_reducible exact True.intro))
      ·obtain rfl:i=l.length:=by omega
       have e:RisP 0 l:=k2.1 (by rw [List.drop_length];trivial)
       (try simp (maxSteps:=2000000) (disch:=omega) only [go_sem,simprocAttr,zD,zE,eMs,hl])
       refine⟨j+1, [],⟨lj,sn e⟩,by omega,?_⟩
       constructor<;>((try refine zO ?_);(try with_reducible exact True.intro))
    ·obtain rfl:j=inn.length:=by omega
     ((try refine zO ?_);(try with_reducible exact True.intro))
     (refine walk_trim [1,8] trivial zL ?_;((try refine zW ?_);(try with_reducible exact True.intro)))
     refine walk_floop 200 200 (fun k:Nat=>k≤out.length∧ ∀(m:Nat) (l:List Int),m < k→out[m]? =some l→l.length≤500∧LetsP l)
      (fun k=>⟨167, [(1, .ptr 0 0 0 0),(8,sci .i64 k)], [],1, [(0, .arr 6 0 [[sci .i64 node,sci .i64 state,sci .i64 steps,lI sent,lMs inn,lLs out]])]⟩) (fun k=>out.length - k) (0) [] ?_ ?_ ?_
     ·simp
     ·constructor<;>(try simp (maxSteps:=2000000) (disch:=omega) only [go_sem,simprocAttr,zD,zE,Int.natCast_zero,List.take_of_length_le,List.append_assoc])
     ·rintro k hk
      obtain⟨hk,hinvk⟩:=hk
      ((try refine zW ?_);(try with_reducible exact True.intro))
      by_cases lk:k < out.length
      ·have sn:=all_snoc lk hinvk
       have bd: ¬(out[k].length≤500∧LetsP out[k])→tB (PieceP ⟨node,state,steps,sent,inn,out⟩)=false:=fun q=>tB_neg fun h=>q (h.2.2.2.2.2.2.2.2.2 k _ lk (List.getElem?_eq_getElem lk))
       have ho:=b5 out[k] (List.getElem_mem lk)
       generalize hx:out[k]=x at *
       (try simp (maxSteps:=2000000) (disch:=omega) only [go_sem,simprocAttr,zD,zE,eLs,hx])
       by_cases g1:500 < x.length
       ·have e2:=bd fun q=>by have:=q.1;omega
        (try simp (maxSteps:=2000000) (disch:=omega) only [go_sem,simprocAttr,zD,zE,e2])
       ((try refine zO ?_);(try with_reducible exact True.intro))
       (refine walk_trim [1,8,9] trivial zL ?_;((try refine zW ?_);(try with_reducible exact True.intro)))
       refine walk_floop 200 200 (fun n:Nat=>n≤x.length∧ ∀(m:Nat) (y:Int),m < n→x[m]? =some y→0≤y∧y≤3)
        (fun n=>⟨167, [(1, .ptr 0 0 0 0),(8,sci .i64 k),(9,sci .i64 n)], [],1, [(0, .arr 6 0 [[sci .i64 node,sci .i64 state,sci .i64 steps,lI sent,lMs inn,lLs out]])]⟩) (fun n=>x.length - n) (0) [] ?_ ?_ ?_
       ·simp
       ·constructor<;>(try simp (maxSteps:=2000000) (disch:=omega) only [go_sem,simprocAttr,zD,zE,Int.natCast_zero,List.take_of_length_le,List.append_assoc])
       ·rintro n hn
        obtain⟨hn,hinvn⟩:=hn
        ((try refine zW ?_);(try with_reducible exact True.intro))
        by_cases ln:n < x.length
        ·have sn2:=all_snoc ln hinvn
         have bd2: ¬(0≤x[n]∧x[n]≤3)→tB (PieceP ⟨node,state,steps,sent,inn,out⟩)=false:=fun q=>bd fun h=>q (h.2 n _ ln (List.getElem?_eq_getElem ln))
         generalize hy:x[n]=y at *
         by_cases g2:y < 0
         ·have e2:=bd2 fun q=>by have:=q.1;omega
          (try simp (maxSteps:=2000000) (disch:=omega) only [go_sem,simprocAttr,zD,zE,eLs,hx,eI,hy,g2,e2])
         by_cases g3:3 < y
         ·have e2:=bd2 fun q=>by have:=q.2;omega
          (try simp (maxSteps:=2000000) (disch:=omega) only [go_sem,simprocAttr,zD,zE,eLs,hx,eI,hy,g2,g3,e2])
         (try simp (maxSteps:=2000000) (disch:=omega) only [go_sem,simprocAttr,zD,zE,eLs,hx,eI,hy,g2,g3])
         refine⟨n+1, [],⟨ln,sn2 ⟨by omega,by omega⟩⟩,by omega,?_⟩
         constructor<;>((try refine zO ?_);(try with_reducible exact True.intro))
        ·obtain rfl:n=x.length:=by omega
         (try simp (maxSteps:=2000000) (disch:=omega) only [go_sem,simprocAttr,zD,zE,eLs,hx])
         refine⟨k+1, [],⟨lk,sn ⟨by omega,hinvn⟩⟩,by omega,?_⟩
         constructor<;>((try refine zO ?_);(try with_reducible exact True.intro))
      ·obtain rfl:k=out.length:=by omega
       have e:tB (PieceP ⟨node,state,steps,sent,inn,out⟩)=true:=tB_pos ⟨⟨by simp only;omega,by simp only;omega⟩,⟨by simp only;omega,by simp only;omega⟩,by simp only;omega,by simp only;omega,by simp only;omega,by simp only;omega,by simp only;omega,hinvi,hinvj,hinvk⟩
       (try simp (maxSteps:=2000000) (disch:=omega) only [go_sem,simprocAttr,zD,zE,e])
end Go.Proofs.GY
