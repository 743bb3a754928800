/- Facts that the proofs of this claim lean on. -/
import Derived.Test.YteebghpjgcacmaaGreatYMe
set_option linter.unusedSimpArgs false
set_option linter.unusedVariables false
/- The document's answers of layer 11, and of configurations. -/
namespace Go.Proofs.GY
open Go Go.Idl Go.Proofs Go.GP
set_option maxHeartbeats 20000000
set_option maxRecDepth 100000
theorem R9Place_spec (l:List Int) (a:Int):Pure Tryz.prog 67 [lI l,sci .i64 a] (sci .i64 (indexL a 0 l)):=by
 refine pcall0 200 (fn:=Tryz.f67) Tryz.func67 rfl (by simp [Tryz.ntmps67]) zB zB fun hs=>?_
 simp only [go_sem,simprocAttr,maxLen] at hs
 ((try refine zO ?_);(try with_reducible exact True.intro))
 refine walk_floop 200 200 (fun i:Nat=>i≤l.length∧indexL a i (l.drop i)=indexL a 0 l)
  (fun i=>⟨19, [(0,lI l),(1,sci .i64 a),(5,sci .i64 i)], [],0, []⟩) (fun i=>l.length - i) (0) [] ?_ ?_ ?_
 ·simp
 ·constructor<;>(try simp (disch:=omega) only [go_sem,simprocAttr,zD,zE,Int.natCast_zero,List.take_of_length_le,List.append_assoc])
 ·rintro i hi
  obtain⟨hi,hinvi⟩:=hi
  ((try refine zW ?_);(try with_reducible exact True.intro))
  by_cases li:i < l.length
  ·rw [drop_cons li,indexL] at hinvi
   by_cases e:a=l[i]
   ·rw [if_pos e] at hinvi
    (try simp (disch:=omega) only [go_sem,simprocAttr,zD,zE,eI,←e,←hinvi])
   ·rw [if_neg e] at hinvi
    have e2:(l[i]==a)=false:=beq_eq_false_iff_ne.2 fun q=>e q.symm
    (try simp (disch:=omega) only [go_sem,simprocAttr,zD,zE,eI,e2])
    refine⟨i+1, [],⟨by first | assumption | omega,hinvi⟩,?_,?_⟩
    ·(try simp only []);omega
    ·constructor<;>(try simp (disch:=omega) only [go_sem,simprocAttr,zD,zE,List.append_assoc])
  ·obtain rfl:i=l.length:=by omega
   rw [List.drop_length] at hinvi
   (try simp (disch:=omega) only [go_sem,simprocAttr,zD,zE,←hinvi,indexL])
theorem R5Place_spec (l:List (Int × Int)) (q:Int):Pure Tryz.prog 29 [lII l,sci .i64 q] (sci .i64 (idxM q 0 l)):=by
 refine pcall0 200 (fn:=Tryz.f29) Tryz.func29 rfl (by simp [Tryz.ntmps29]) zB zB fun hs=>?_
 simp only [go_sem,simprocAttr,maxLen] at hs
 ((try refine zO ?_);(try with_reducible exact True.intro))
 refine walk_floop 200 200 (fun i:Nat=>i≤l.length∧idxM q i (l.drop i)=idxM q 0 l)
  (fun i=>⟨20, [(0,lII l),(1,sci .i64 q),(5,sci .i64 i)], [],0, []⟩) (fun i=>l.length - i) (0) [] ?_ ?_ ?_
 ·simp
 ·constructor<;>(try simp (disch:=omega) only [go_sem,simprocAttr,zD,zE,Int.natCast_zero,List.take_of_length_le,List.append_assoc])
 ·rintro i hi
  obtain⟨hi,hinvi⟩:=hi
  ((try refine zW ?_);(try with_reducible exact True.intro))
  by_cases li:i < l.length
  ·rw [drop_cons li,idxM] at hinvi
   by_cases e:l[i].1=q
   ·rw [if_pos e] at hinvi
    have e2:(l[i].1==q)=true:=beq_iff_eq.2 e
    (try simp (disch:=omega) only [go_sem,simprocAttr,zD,zE,eII,e2,←hinvi])
   ·rw [if_neg e] at hinvi
    have e2:(l[i].1==q)=false:=beq_eq_false_iff_ne.2 e
    (try simp (disch:=omega) only [go_sem,simprocAttr,zD,zE,eII,e2])
    refine⟨i+1, [],⟨by first | assumption | omega,hinvi⟩,?_,?_⟩
    ·(try simp only []);omega
    ·constructor<;>(try simp (disch:=omega) only [go_sem,simprocAttr,zD,zE,List.append_assoc])
  ·obtain rfl:i=l.length:=by omega
   rw [List.drop_length] at hinvi
   (try simp (disch:=omega) only [go_sem,simprocAttr,zD,zE,←hinvi,idxM])
theorem L5Ref_spec (S:List Int) (L:List (List (Int × Int))) (E:List Int):Pure Tryz.prog 24 [lCf S L E] (lCf S L E):=by
 refine pcall0 200 (fn:=Tryz.f24) Tryz.func24 rfl (by simp [Tryz.ntmps24]) zB zB fun hs=>?_
 ((try refine zW ?_);(try with_reducible exact True.intro))
theorem R5SameR_spec (S:List Int) (L:List (List (Int × Int))) (E:List Int):Pure Tryz.prog 23 [lCf S L E,lCf S L E] (scb true):=by
 refine pcall0 200 (fn:=Tryz.f23) Tryz.func23 rfl (by simp [Tryz.ntmps23]) zB zB fun hs=>?_
 simp (maxSteps:=2000000) only [go_sem,simprocAttr,maxLen] at hs
 have a1:(S==S)=true:=beq_self_eq_true S
 have a2:(E==E)=true:=beq_self_eq_true E
 ((try refine zW ?_);(try with_reducible exact True.intro))
 (refine at_call 200 ?_;(refine zW ?_;try with_reducible exact True.intro);refine callA_of (Ints_spec S S) zB ?_;((try refine zW ?_);(try with_reducible exact True.intro)))
 (try simp (maxSteps:=2000000) (disch:=omega) only [go_sem,simprocAttr,zD,zE,a1])
 (refine at_call 200 ?_;(refine zW ?_;try with_reducible exact True.intro);refine callA_of (Ints_spec E E) zB ?_;((try refine zW ?_);(try with_reducible exact True.intro)))
 (try simp (maxSteps:=2000000) (disch:=omega) only [go_sem,simprocAttr,zD,zE,a2])
 (refine walk_trim [2,3,5] trivial zL ?_;((try refine zW ?_);(try with_reducible exact True.intro)))
 refine walk_floop 200 200 (fun i:Nat=>i≤L.length)
  (fun i=>⟨48, [(2, .ptr 0 0 0 0),(3, .ptr 1 0 0 0),(5,sci .i64 i)], [],2, [(1, .arr 3 0 [[lI S,lMs L,lI E]]),(0, .arr 3 0 [[lI S,lMs L,lI E]])]⟩) (fun i=>L.length - i) (0) [] ?_ ?_ ?_
 ·simp
 ·constructor<;>(try simp (maxSteps:=2000000) (disch:=omega) only [go_sem,simprocAttr,zD,zE,Int.natCast_zero,List.take_of_length_le,List.append_assoc])
 ·rintro i hi
  ((try refine zW ?_);(try with_reducible exact True.intro))
  by_cases li:i < L.length
  ·have a3:(L[i]==L[i])=true:=beq_self_eq_true _
   (try simp (maxSteps:=2000000) (disch:=omega) only [go_sem,simprocAttr,zD,zE,eMs])
   (refine walk_trim [2,3,5] trivial zL ?_;(refine zW ?_;try with_reducible exact True.intro);refine irun_walk (id:=6) (n:=200) [none,none,none,none,none,none,none,none,none,none,some [],none] mixed (by kernel_rfl) ?_)
   (try simp (maxSteps:=2000000) (disch:=omega) only [go_sem,simprocAttr,zD,zE,eMs])
   (refine at_dcall ?_;(refine zW ?_;try with_reducible exact True.intro);refine callA_of (Msgs_spec L[i] L[i]) zB ?_;((try refine zW ?_);(try with_reducible exact True.intro)))
   (try simp (maxSteps:=2000000) (disch:=omega) only [go_sem,simprocAttr,zD,zE,a3])
   refine⟨i+1, [],by first | assumption | omega,?_,?_⟩
   ·(try simp only []);omega
   ·constructor<;>(try simp (maxSteps:=2000000) (disch:=omega) only [go_sem,simprocAttr,zD,zE,List.append_assoc])
  ·obtain rfl:i=L.length:=by omega
   ((try refine zO ?_);(try with_reducible exact True.intro))
theorem R13Steps_spec (l:List Pc) (hl:l.length≤1000000):Pure Tryz.prog 18 [lPs l] (lI (l.map (·.steps))):=by
 refine pcall0 200 (fn:=Tryz.f18) Tryz.func18 rfl (by simp [Tryz.ntmps18]) zB zB fun hs=>?_
 simp only [go_sem,simprocAttr,maxLen] at hs
 ((try refine zW ?_);(try with_reducible exact True.intro))
 refine walk_own 3 1 trivial rfl (.inl rfl) ?_
 obtain⟨X,hX⟩: ∃X:List Int,X=l.map (·.steps):=⟨_,rfl⟩
 have hXl:X.length=l.length:=by rw [hX,List.length_map]
 have hXs: ∀(i:Nat) (li:i < l.length),X.take (i+1)=X.take i++ [l[i].steps]:=fun i li=>by
  rw [hX,List.take_succ_eq_append_getElem (by rw [List.length_map];exact li),List.getElem_map]
 rw [←hX]
 clear hX
 (refine walk_trim [0,3,4] trivial zL ?_;((try refine zW ?_);(try with_reducible exact True.intro)))
 refine walk_floop 200 200 (fun i:Nat × Nat=>i.1≤l.length)
  (fun i=>⟨21, [(0,lPs l),(3, .ref 0 i.2 0 i.1),(4,sci .i64 i.1)], [],1, [(0, .arr 1 i.2 (ir eI (X.take i.1)))]⟩) (fun i=>l.length - i.1) (0,0) [] ?_ ?_ ?_
 ·simp
 ·constructor<;>(try simp (disch:=omega) only [go_sem,simprocAttr,zD,zE,Int.natCast_zero,List.take_of_length_le,List.append_assoc,List.take_zero])
 ·rintro⟨i,g⟩ hi
  simp only at hi
  ((try refine zW ?_);(try with_reducible exact True.intro))
  by_cases li:i < l.length
  ·have hpt:=hXs i li
   have htt:(X.take i).length=i:=by rw [List.length_take];omega
   have hmm:min i (min i X.length)=i:=by omega
   have hti:(X.take i).take i=X.take i:=by rw [List.take_take,Nat.min_self]
   generalize hp:l[i]=p at *
   (try simp (disch:=omega) only [go_sem,simprocAttr,zD,zE,ePc,hp,hmm])
   refine⟨(i+1,g+1), [],by first | assumption | omega,?_,?_⟩
   ·(try simp only []);omega
   ·constructor<;>(try simp (disch:=omega) only [go_sem,simprocAttr,zD,zE,hmm,hpt,hti,ir_snoc,List.map_cons,List.map_nil,List.append_assoc])
  ·obtain rfl:i=l.length:=by omega
   have e:X.take l.length=X:=List.take_of_length_le (by omega)
   (try simp (disch:=omega) only [go_sem,simprocAttr,zD,zE,e])
theorem R11Rest_spec (out:List Int) (inn:List (Int × Int)) (hl:out.length≤1000000):Pure Tryz.prog 69 [lI out,lII inn] (lII (restL out inn)):=by
 refine pcall0 200 (fn:=Tryz.f69) Tryz.func69 rfl (by simp [Tryz.ntmps69]) zB zB fun hs=>?_
 simp (maxSteps:=2000000) only [go_sem,simprocAttr,maxLen] at hs
 ((try refine zW ?_);(try with_reducible exact True.intro))
 refine walk_own 5 2 trivial rfl (.inl rfl) ?_
 (refine walk_trim [0,1,5,6] trivial zL ?_;((try refine zW ?_);(try with_reducible exact True.intro)))
 refine walk_floop 200 200 (fun i:Nat × Nat=>i.1≤out.length)
  (fun i=>⟨30, [(0,lI out),(1,lII inn),(5, .ref 0 i.2 0 (restL (out.take i.1) inn).length),(6,sci .i64 i.1)], [],1, [(0, .arr 2 i.2 (ir eII (restL (out.take i.1) inn)))]⟩) (fun i=>out.length - i.1) (0,0) [] ?_ ?_ ?_
 ·simp
 ·constructor<;>(try simp (maxSteps:=2000000) (disch:=omega) only [go_sem,simprocAttr,zD,zE,Int.natCast_zero,List.take_of_length_le,List.append_assoc,List.take_zero,restL,allM,List.filter_nil])
 ·rintro⟨i,g⟩ hi
  simp only at hi
  ((try refine zW ?_);(try with_reducible exact True.intro))
  by_cases li:i < out.length
  ·have hpt:=restL_snoc out[i] (out.take i) inn
   rw [←List.take_succ_eq_append_getElem li,List.length_take,Nat.min_eq_left (by omega)] at hpt
   have hml:i < maxLen:=by unfold maxLen;omega
   have htl: ∀l:List (Int × Int),l.take l.length=l:=fun l=>List.take_length
   have hm:=idxM_mem (q:=(i:Int)+1) (l:=inn) (i:=0)
   have hRl:(restL (out.take i) inn).length≤1000000:=by
    have:=List.length_filter_le (fun m=>decide (m.1 ∉ keysM inn)) (allM 0 (out.take i))
    rw [allM_len,List.length_take] at this
    have e:(restL (out.take i) inn).length=(List.filter (fun m=>decide (m.1 ∉ keysM inn)) (allM 0 (out.take i))).length:=rfl
    omega
   generalize hR:restL (out.take i) inn=R at *
   ((try refine zO ?_);(try with_reducible exact True.intro))
   (refine at_call 200 ?_;(refine zW ?_;try with_reducible exact True.intro);refine callA_of (R5Place_spec inn ((i:Int)+1)) zB ?_;((try refine zW ?_);(try with_reducible exact True.intro)))
   by_cases h1:(i:Int)+1∈keysM inn
   ·rw [if_pos h1] at hpt
    have h2:=hm.2 h1
    have h2': ¬idxM ((i:Int)+1) 0 inn < 0:=by omega
    (try simp (maxSteps:=2000000) (disch:=omega) only [go_sem,simprocAttr,zD,zE,h2'])
    refine⟨(i+1,g), [],by first | assumption | omega,?_,?_⟩
    ·(try simp only []);omega
    ·constructor<;>(try simp (maxSteps:=2000000) (disch:=omega) only [go_sem,simprocAttr,zD,zE,hpt,List.append_assoc])
   ·rw [if_neg h1] at hpt
    have h2:idxM ((i:Int)+1) 0 inn < 0:=by
     rcases Int.lt_or_le (idxM ((i:Int)+1) 0 inn) 0 with q | q
     ·exact q
     ·exact absurd (hm.1 q) h1
    (try simp (maxSteps:=2000000) (disch:=omega) only [go_sem,simprocAttr,zD,zE,h2,eI])
    refine⟨(i+1,g+1), [],by first | assumption | omega,?_,?_⟩
    ·(try simp only []);omega
    ·constructor<;>(try simp (maxSteps:=2000000) (disch:=omega) only [go_sem,simprocAttr,zD,zE,hpt,htl,ir_snoc,eII,List.map_cons,List.map_nil,List.length_append,List.length_cons,List.length_nil,List.append_assoc])
  ·obtain rfl:i=out.length:=by omega
   (try simp (maxSteps:=2000000) (disch:=omega) only [go_sem,simprocAttr,zD,zE,List.take_length])
end Go.Proofs.GY
/- The document's answers: what was got that was not sent; which configurations may be. -/
namespace Go.Proofs.GY
open Go Go.Idl Go.Proofs Go.GP
set_option maxHeartbeats 20000000
set_option maxRecDepth 100000
def MixAt (out:List Int) (inn:List (Int × Int)) (i:Nat) (x:Int × Int):Prop:=x.1 < 1∨(out.length:Int) < x.1∨out[(x.1 - 1).toNat]? ≠some x.2∨idxM x.1 0 inn≠i
theorem R11Mixed_spec (out:List Int) (inn:List (Int × Int)) (ho:out.length≤1000000) (hi:inn.length≤1000000):Pure Tryz.prog 68 [lI out,lII inn] (scb (tB (MixD out inn))):=by
 refine pcall0 200 (fn:=Tryz.f68) Tryz.func68 rfl (by simp [Tryz.ntmps68]) zB zB fun hs=>?_
 simp (maxSteps:=2000000) only [go_sem,simprocAttr,maxLen] at hs
 ((try refine zW ?_);(try with_reducible exact True.intro))
 (refine walk_trim [0,1,5] trivial zL ?_;((try refine zW ?_);(try with_reducible exact True.intro)))
 refine walk_floop 200 200 (fun i:Nat=>i≤inn.length∧ ∀(j:Nat) (x:Int × Int),j < i→inn[j]? =some x→ ¬MixAt out inn j x)
  (fun i=>⟨56, [(0,lI out),(1,lII inn),(5,sci .i64 i)], [],0, []⟩) (fun i=>inn.length - i) (0) [] ?_ ?_ ?_
 ·simp
 ·constructor<;>(try simp (maxSteps:=2000000) (disch:=omega) only [go_sem,simprocAttr,zD,zE,Int.natCast_zero,List.take_of_length_le,List.append_assoc])
 ·rintro i hi
  obtain⟨hi,hinvi⟩:=hi
  ((try refine zW ?_);(try with_reducible exact True.intro))
  by_cases li:i < inn.length
  ·have sn:=all_snoc (P:=fun j (x:Int × Int)=> ¬MixAt out inn j x) li hinvi
   have bd:MixAt out inn i inn[i]→tB (MixD out inn)=true:=fun q=>tB_pos ⟨i,_,List.getElem?_eq_getElem li,q⟩
   generalize hp:inn[i]=p at *
   obtain⟨a,c⟩:=p
   (try simp only at bd sn)
   (try simp (maxSteps:=2000000) (disch:=omega) only [go_sem,simprocAttr,zD,zE,eII,hp])
   (refine walk_trim [0,1,5] trivial zL ?_;(refine zW ?_;try with_reducible exact True.intro);refine irun_walk (id:=4) (n:=200) (none::none::none::none::none::none::none::none::none::none::none::none::none::none::none::none::none::none::none::none::none::none::none::none::none::none::none::none::none::none::none::none::none::none::none::none::none::none::none::none::some [41]::none::none::none:: []) mixed (by kernel_rfl) ?_)
   by_cases g1:a < 1
   ·have e:=bd (.inl g1)
    (try simp (maxSteps:=2000000) (disch:=omega) only [go_sem,simprocAttr,zD,zE,eII,hp,g1,e])
   by_cases g2:(out.length:Int) < a
   ·have e:=bd (.inr (.inl g2))
    (try simp (maxSteps:=2000000) (disch:=omega) only [go_sem,simprocAttr,zD,zE,eII,hp,g1,g2,e])
   obtain⟨k,hk⟩:=Int.eq_ofNat_of_zero_le (show 0≤a - 1 by omega)
   obtain rfl:a=(k:Int)+1:=by omega
   have lk:k < out.length:=by omega
   have hk2:((k:Int)+1 - 1).toNat=k:=by omega
   have hk3:(k:Int)+1 - 1=k:=by omega
   have hgk:out[k]? =some out[k]:=List.getElem?_eq_getElem lk
   by_cases g3:out[k]=c
   rotate_left
   ·have e:=bd (.inr (.inr (.inl (by rw [hk2,hgk];exact fun h=>g3 (Option.some.inj h)))))
    have g3':(out[k] != c)=true:=bne_iff_ne.2 g3
    (try simp (maxSteps:=2000000) (disch:=omega) only [go_sem,simprocAttr,zD,zE,eII,hp,g1,g2,hk3,eI,g3',e])
   have g3':(out[k] != c)=false:=by rw [g3];exact bne_self_eq_false c
   (try simp (maxSteps:=2000000) (disch:=omega) only [go_sem,simprocAttr,zD,zE,eII,hp,g1,g2,hk3,eI,g3'])
   (refine at_dcall ?_;(refine zW ?_;try with_reducible exact True.intro);refine callA_of (R5Place_spec inn ((k:Int)+1)) zB ?_;((try refine zW ?_);(try with_reducible exact True.intro)))
   by_cases g4:idxM ((k:Int)+1) 0 inn=(i:Int)
   ·have g4':(idxM ((k:Int)+1) 0 inn != (i:Int))=false:=by rw [g4];exact bne_self_eq_false _
    (try simp (maxSteps:=2000000) (disch:=omega) only [go_sem,simprocAttr,zD,zE,g4'])
    refine⟨i+1, [],⟨li,sn ?_⟩,by omega,?_⟩
    ·rintro(q | q | q | q)
     ·exact g1 q
     ·exact g2 q
     ·exact q (by rw [hk2,hgk,g3])
     ·exact q g4
    ·constructor<;>((try refine zO ?_);(try with_reducible exact True.intro))
   ·have e:=bd (.inr (.inr (.inr g4)))
    have g4':(idxM ((k:Int)+1) 0 inn != (i:Int))=true:=bne_iff_ne.2 g4
    (try simp (maxSteps:=2000000) (disch:=omega) only [go_sem,simprocAttr,zD,zE,g4',e])
  ·obtain rfl:i=inn.length:=by omega
   have e:tB (MixD out inn)=false:=tB_neg fun⟨j,x,hx,q⟩=>hinvi j x (List.getElem?_eq_some_iff.1 hx).1 hx q
   (try simp (maxSteps:=2000000) (disch:=omega) only [go_sem,simprocAttr,zD,zE,e])
theorem R5Right_spec (N:Int) (ls:List (Int × Int)) (T:List Nd) (ff:Bool) (S:List Int) (L:List (List (Int × Int))) (E:List Int) (hT:SmallT T) (hls:ls.length≤1000000) (hLL: ∀l∈L,l.length≤1000000):
  Pure Tryz.prog 26 [.agg [sci .i64 N,lII ls, .p (.imm 2 (pr eNd T)),scb ff],lCf S L E] (scb (tB (ConfP N ls T S L E))):=by
 have bad: ∀ {q:Prop},(ConfP N ls T S L E→q)→ ¬q→tB (ConfP N ls T S L E)=false:=fun f g=>tB_neg fun h=>g (f h)
 refine pcall0 200 (fn:=Tryz.f26) Tryz.func26 rfl (by simp [Tryz.ntmps26]) zB zB fun hs=>?_
 simp (maxSteps:=2000000) only [go_sem,simprocAttr,maxLen] at hs
 ((try refine zW ?_);(try with_reducible exact True.intro))
 (refine at_call 200 ?_;(refine zW ?_;try with_reducible exact True.intro);refine callA_of (R4Right_spec N ls T hT) zB ?_;((try refine zW ?_);(try with_reducible exact True.intro)))
 by_cases hR:TabP N ls T
 rotate_left
 ·have eR:=tB_neg hR
  have e:=bad (fun q=>q.1) hR
  (try simp (maxSteps:=2000000) (disch:=omega) only [go_sem,simprocAttr,zD,zE,eR,e])
 have eR:=tB_pos hR
 by_cases h1:(S.length:Int)=N
 rotate_left
 ·have e:=bad (fun q=>q.2.1) h1
  (try simp (maxSteps:=2000000) (disch:=omega) only [go_sem,simprocAttr,zD,zE,eR,h1,e])
 by_cases h2:L.length=ls.length
 rotate_left
 ·have e:=bad (fun q=>q.2.2.1) h2
  have h2': ¬(L.length:Int)=ls.length:=by omega
  (try simp (maxSteps:=2000000) (disch:=omega) only [go_sem,simprocAttr,zD,zE,eR,h1,h2',e])
 by_cases h3:E.length=ls.length
 rotate_left
 ·have e:=bad (fun q=>q.2.2.2.1) h3
  have h3': ¬(E.length:Int)=ls.length:=by omega
  (try simp (maxSteps:=2000000) (disch:=omega) only [go_sem,simprocAttr,zD,zE,eR,h1,h2,h3',e])
 (try simp (maxSteps:=2000000) (disch:=omega) only [go_sem,simprocAttr,zD,zE,eR,h1,h2,h3])
 have hTl:(T.length:Int)=N:=hR.2.1
 have hN6:N≤6:=hR.1.2.1
 (refine walk_trim [2,3,5] trivial zL ?_;((try refine zW ?_);(try with_reducible exact True.intro)))
 refine walk_floop 200 200 (fun i:Nat=>i≤S.length∧ ∀(k:Nat) (s:Int),k < i→S[k]? =some s→0≤s∧ ∀x,T[k]? =some x→s < x.states.length)
  (fun i=>⟨138, [(2, .ptr 0 0 0 0),(3, .ptr 1 0 0 0),(5,sci .i64 i)], [],2, [(1, .arr 3 0 [[lI S,lMs L,lI E]]),(0, .arr 4 0 [[sci .i64 N,lII ls, .p (.imm 2 (pr eNd T)),scb ff]])]⟩) (fun i=>S.length - i) (0) [] ?_ ?_ ?_
 ·simp
 ·constructor<;>(try simp (maxSteps:=2000000) (disch:=omega) only [go_sem,simprocAttr,zD,zE,Int.natCast_zero,List.take_of_length_le,List.append_assoc,h1])
 ·rintro i hi
  obtain⟨hi,hinvi⟩:=hi
  ((try refine zW ?_);(try with_reducible exact True.intro))
  by_cases li:i < S.length
  ·have sn:=all_snoc (P:=fun k (s:Int)=>0≤s∧ ∀x,T[k]? =some x→s < x.states.length) li hinvi
   have bd: ¬(0≤S[i]∧ ∀x,T[i]? =some x→S[i] < x.states.length)→tB (ConfP N ls T S L E)=false:=fun q=>tB_neg fun h=>q (h.2.2.2.2.1 i _ (List.getElem?_eq_getElem li))
   have lT:i < T.length:=by omega
   have li':(i:Int) < N:=by omega
   have hq:T[i]? =some T[i]:=List.getElem?_eq_getElem lT
   generalize hx:T[i]=x at *
   generalize hs2:S[i]=s at *
   obtain⟨st,ss⟩:=x
   by_cases g1:s < 0
   ·have e:=bd fun q=>by omega
    (try simp (maxSteps:=2000000) (disch:=omega) only [go_sem,simprocAttr,zD,zE,eI,hs2,g1,e])
    (refine walk_trim [2,3,5] trivial zL ?_;(refine zW ?_;try with_reducible exact True.intro);refine irun_walk (id:=6) (n:=200) [none,none,none,none,none,none,none,none,none,none,none,none,none,none,none,none,none,none,none,none,none] mixed (by kernel_rfl) ?_)
    (try simp (maxSteps:=2000000) (disch:=omega) only [go_sem,simprocAttr,zD,zE,eI,hs2,g1,e])
   by_cases g2:(ss.length:Int)≤s
   ·have e:=bd fun q=>by have:=q.2 _ hq;simp only at this;omega
    (try simp (maxSteps:=2000000) (disch:=omega) only [go_sem,simprocAttr,zD,zE,eI,hs2,g1,hx,eNd,g2,e])
    (refine walk_trim [2,3,5] trivial zL ?_;(refine zW ?_;try with_reducible exact True.intro);refine irun_walk (id:=6) (n:=200) [none,none,none,none,none,none,none,none,none,none,none,none,none,none,none,none,none,none,none,none,none] mixed (by kernel_rfl) ?_)
    (try simp (maxSteps:=2000000) (disch:=omega) only [go_sem,simprocAttr,zD,zE,eI,hs2,g1,hx,eNd,g2,e])
   (try simp (maxSteps:=2000000) (disch:=omega) only [go_sem,simprocAttr,zD,zE,eI,hs2,g1,hx,eNd,g2])
   (refine walk_trim [2,3,5] trivial zL ?_;(refine zW ?_;try with_reducible exact True.intro);refine irun_walk (id:=6) (n:=200) [none,none,none,none,none,none,none,none,none,none,none,none,none,none,none,none,none,none,none,none,none] mixed (by kernel_rfl) ?_)
   (try simp (maxSteps:=2000000) (disch:=omega) only [go_sem,simprocAttr,zD,zE,eI,hs2,g1,hx,eNd,g2])
   refine⟨i+1, [],⟨li,sn ⟨by omega,fun x hx'=>by rw [hq] at hx';cases hx';simp only;omega⟩⟩,by omega,?_⟩
   constructor<;>(try simp (maxSteps:=2000000) (disch:=omega) only [go_sem,simprocAttr,zD,zE,h1])
  ·obtain rfl:i=S.length:=by omega
   have hS:=all_end hinvi
   (try simp (maxSteps:=2000000) (disch:=omega) only [go_sem,simprocAttr,zD,zE,h1])
   (refine walk_trim [3,6] trivial zL ?_;((try refine zW ?_);(try with_reducible exact True.intro)))
   refine walk_floop 200 200 (fun i:Nat=>i≤L.length∧ ∀(k:Nat) (l:List (Int × Int)),k < i→L[k]? =some l→ ∀e,E[k]? =some e→MayC l e)
    (fun i=>⟨138, [(3, .ptr 1 0 0 0),(6,sci .i64 i)], [],2, [(1, .arr 3 0 [[lI S,lMs L,lI E]])]⟩) (fun i=>L.length - i) (0) [] ?_ ?_ ?_
   ·simp
   ·constructor<;>(try simp (maxSteps:=2000000) (disch:=omega) only [go_sem,simprocAttr,zD,zE,Int.natCast_zero,List.take_of_length_le,List.append_assoc])
   ·rintro i hi
    obtain⟨hi,hinvi⟩:=hi
    ((try refine zW ?_);(try with_reducible exact True.intro))
    by_cases li:i < L.length
    ·have sn:=all_snoc (P:=fun k (l:List (Int × Int))=> ∀e,E[k]? =some e→MayC l e) li hinvi
     have lE:i < E.length:=by omega
     have li':(i:Int) < ls.length:=by omega
     have hq:E[i]? =some E[i]:=List.getElem?_eq_getElem lE
     have bd: ¬MayC L[i] E[i]→tB (ConfP N ls T S L E)=false:=fun q=>tB_neg fun h=>q (h.2.2.2.2.2 i _ (List.getElem?_eq_getElem li) _ hq)
     have hlj:=hLL _ (List.getElem_mem li)
     generalize hx:E[i]=n at *
     generalize hs2:L[i]=l at *
     by_cases g1:n < 0
     ·have e:=bd fun q=>by have:=q.2.1;omega
      (try simp (maxSteps:=2000000) (disch:=omega) only [go_sem,simprocAttr,zD,zE,eMs,hs2,eI,hx,g1,e])
     by_cases g2:500 < n
     ·have e:=bd fun q=>by have:=q.2.2;omega
      (try simp (maxSteps:=2000000) (disch:=omega) only [go_sem,simprocAttr,zD,zE,eMs,hs2,eI,hx,g1,g2,e])
     (try simp (maxSteps:=2000000) (disch:=omega) only [go_sem,simprocAttr,zD,zE,eMs,hs2,eI,hx,g1,g2])
     (refine walk_trim [3,6,7,8] trivial zL ?_;((try refine zW ?_);(try with_reducible exact True.intro)))
     refine walk_floop 200 200 (fun z:Nat × Int=>z.1≤l.length∧(GP.MayP n z.2 (l.drop z.1)↔GP.MayP n 0 l))
      (fun z=>⟨138, [(3, .ptr 1 0 0 0),(6,sci .i64 i),(7,sci .i64 z.2),(8,sci .i64 z.1)], [],2, [(1, .arr 3 0 [[lI S,lMs L,lI E]])]⟩) (fun z=>l.length - z.1) (0,0) [] ?_ ?_ ?_
     ·simp
     ·constructor<;>(try simp (maxSteps:=2000000) (disch:=omega) only [go_sem,simprocAttr,zD,zE,Int.natCast_zero])
     ·rintro⟨j,last⟩ ⟨j1,j2⟩
      simp only at j1 j2
      (try simp (maxSteps:=2000000) (disch:=omega) only [go_sem,simprocAttr,zD,zE,eMs,hs2])
      by_cases lj:j < l.length
      ·rw [List.drop_eq_getElem_cons lj] at j2
       generalize hm:l[j]=m at *
       obtain⟨sq,lt⟩:=m
       have bd2: ¬(last < sq∧sq≤n∧0≤lt∧lt≤3)→tB (ConfP N ls T S L E)=false:=fun q=>bd fun h=>q (j2.2 h.1).1
       (try simp (maxSteps:=2000000) (disch:=omega) only [go_sem,simprocAttr,zD,zE,eMs,hs2,eII,hm])
       (refine walk_trim [3,6,7,8,9] trivial zL ?_;(refine zW ?_;try with_reducible exact True.intro);refine irun_walk (id:=18) (n:=200) [none,none,none,none,none,none,none,none,none,none,none,none,none,none,none,none,none,none,none,none,none,none,none,none] mixed (by kernel_rfl) ?_)
       by_cases q1:sq≤last
       ·have e:=bd2 fun q=>by omega
        (try simp (maxSteps:=2000000) (disch:=omega) only [go_sem,simprocAttr,zD,zE,q1,e])
       by_cases q2:n < sq
       ·have e:=bd2 fun q=>by omega
        (try simp (maxSteps:=2000000) (disch:=omega) only [go_sem,simprocAttr,zD,zE,eI,hx,q1,q2,e])
       by_cases q3:lt < 0
       ·have e:=bd2 fun q=>by omega
        (try simp (maxSteps:=2000000) (disch:=omega) only [go_sem,simprocAttr,zD,zE,eI,hx,q1,q2,q3,e])
       by_cases q4:3 < lt
       ·have e:=bd2 fun q=>by omega
        (try simp (maxSteps:=2000000) (disch:=omega) only [go_sem,simprocAttr,zD,zE,eI,hx,q1,q2,q3,q4,e])
       (try simp (maxSteps:=2000000) (disch:=omega) only [go_sem,simprocAttr,zD,zE,eI,hx,q1,q2,q3,q4])
       refine⟨(j+1,sq), [],⟨lj,⟨fun q=>j2.1 ⟨⟨by simp only;omega,by simp only;omega,by simp only;omega,by simp only;omega⟩,q⟩,fun q=>(j2.2 q).2⟩⟩,by simp only;omega,?_⟩
       constructor<;>((try refine zO ?_);(try with_reducible exact True.intro))
      ·obtain rfl:j=l.length:=by omega
       have hM:MayC l n:=⟨j2.1 (by rw [List.drop_length];trivial),by omega,by omega⟩
       ((try refine zO ?_);(try with_reducible exact True.intro))
       refine⟨i+1, [],⟨li,sn fun e' he=>by rw [hq] at he;cases he;exact hM⟩,by omega,?_⟩
       constructor<;>((try refine zO ?_);(try with_reducible exact True.intro))
    ·obtain rfl:i=L.length:=by omega
     have hL:=all_end hinvi
     have e:tB (ConfP N ls T S L E)=true:=tB_pos ⟨hR,h1,h2,h3,hS,hL⟩
     (try simp (maxSteps:=2000000) (disch:=omega) only [go_sem,simprocAttr,zD,zE,e])
end Go.Proofs.GY
