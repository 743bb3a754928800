/- Facts that the proofs of this claim lean on. -/
import Derived.Test.YteebghpjgcacmaaGreatYzP2
import Derived.Test.YteebghpjgcacmaaGreatYWb
import Derived.Test.YteebghpjgcacmaaGreatGCn
import Derived.Test.YteebghpjgcacmaaGreatGBo
set_option linter.unusedSimpArgs false
set_option linter.unusedVariables false
/- What was sent on a link and not got: the program's answer. -/
namespace Go.Proofs.GY
open Go Go.Idl Go.Proofs Go.GP
set_option maxHeartbeats 20000000
set_option maxRecDepth 100000
theorem im:qhs Tryz.prog 213:=⟨3,3,by kernel_rfl,by kernel_rfl,by kernel_rfl,by kernel_rfl⟩
theorem qio (inn:List (Int × Int)) (hl:inn.length≤1000000):PG Tryz.prog 131 [lII inn] [] 1 (.mp 0) [(0, .mp (mpC (cntM (qak inn))))]:=by
 refine qa1 200 (fn:=Tryz.f131) Tryz.func131 rfl (by simp [Tryz.ntmps131]) 0 rfl zC zC zC zC zC fun hs=>?_
 (try simp (maxSteps:=2000000) only [go_sem,simprocAttr,fmkmap])
 (refine walk_trim [3,7,8,9] trivial zL ?_;((try refine zW ?_);(try with_reducible exact True.intro)))
 refine qad 200 200 (fun i:Nat=>i≤inn.length)
  (fun i=>⟨20, [(3, .mp 0),(7,lII inn),(8,sci .i64 inn.length),(9,sci .i64 i)], [],1, [(0, .mp (mpC (cntM (qak (inn.take i)))))]⟩) (fun i=>inn.length - i) (0) [] ?_ ?_ ?_
 ·simp
 ·constructor<;>(try simp (maxSteps:=2000000) (disch:=omega) only [go_sem,simprocAttr,zD,zE,Int.natCast_zero,List.take_of_length_le,List.append_assoc,List.take_zero,qak,List.map_nil,qoO,qqw])
 ·rintro i hi
  try refine zW ?_
  by_cases li:i < inn.length
  ·have hpt:qak (inn.take (i+1))=qak (inn.take i)++ [inn[i].1]:=by rw [List.take_succ_eq_append_getElem li,qak,List.map_append];rfl
   have hb:=qnW (qak (inn.take i)) inn[i].1
   rw [←hpt] at hb
   generalize hp:inn[i]=p at *
   obtain⟨a,c⟩:=p
   simp only at hb
   (try simp (maxSteps:=2000000) (disch:=omega) only [go_sem,simprocAttr,zD,zE,eII,hp])
   rw [qeF (l:=cntM (qak (inn.take i))) im ?hG]
   case hG=>rfl
   have hcb:=qfi (qak (inn.take i)) a
   have hcl:(qak (inn.take i)).count a≤(qak (inn.take i)).length:=List.count_le_length
   have hkl:(qak (inn.take i)).length≤1000000:=by rw [qak,List.length_map,List.length_take];omega
   have hw:cntC a (cntM (qak (inn.take i)))+1 < 2 ^ 63:=by omega
   have hw0: -(2 ^ 63)≤cntC a (cntM (qak (inn.take i)))+1:=by omega
   clear hcb hcl
   try refine zO ?_
   rw [qlR (l:=cntM (qak (inn.take i))) im ?hG2]
   case hG2=>rfl
   try refine zO ?_
   refine⟨i+1, [],li,by omega,?_⟩
   constructor<;>(try simp (maxSteps:=2000000) (disch:=omega) only [go_sem,simprocAttr,zD,zE,hb])
  ·obtain rfl:i=inn.length:=by omega
   (try simp (maxSteps:=2000000) (disch:=omega) only [go_sem,simprocAttr,zD,zE,List.take_length])
   exact⟨[0],⟨rfl,by simp [geAll],by simp [qas,qas.nin]⟩,rfl,qdB _⟩
theorem qke (out:List Int) (hl:out.length≤1000000):PG Tryz.prog 132 [lI out] [] 1 (.ref 0 out.length 0 out.length) [(0, .arr 2 out.length (ir eII (allM 0 out)))]:=by
 refine qa1 200 (fn:=Tryz.f132) Tryz.func132 rfl (by simp [Tryz.ntmps132]) 0 rfl zC zC zC zC zC fun hs=>?_
 try refine zW ?_
 refine walk_own 3 2 trivial rfl (.inr rfl) ?_
 (refine walk_trim [3,6,7,8] trivial zL ?_;((try refine zW ?_);(try with_reducible exact True.intro)))
 refine qad 200 200 (fun i:Nat=>i≤out.length)
  (fun i=>⟨22, [(3, .ref 0 i 0 i),(6,lI out),(7,sci .i64 out.length),(8,sci .i64 i)], [],1, [(0, .arr 2 i (ir eII (allM 0 (out.take i))))]⟩) (fun i=>out.length - i) (0) [] ?_ ?_ ?_
 ·simp
 ·constructor<;>(try simp (maxSteps:=2000000) (disch:=omega) only [go_sem,simprocAttr,zD,zE,Int.natCast_zero,List.take_of_length_le,List.append_assoc,List.take_zero,allM])
 ·rintro i hi
  try refine zW ?_
  by_cases li:i < out.length
  ·have hpt:=qeq out[i] (out.take i) 0
   rw [←List.take_succ_eq_append_getElem li,List.length_take,Nat.min_eq_left (by omega),Nat.zero_add] at hpt
   have hal:(allM 0 (out.take i)).length=i:=by rw [qec,List.length_take];omega
   have hat:(allM 0 (out.take i)).take i=allM 0 (out.take i):=List.take_of_length_le (by omega)
   (try simp (maxSteps:=2000000) (disch:=omega) only [go_sem,simprocAttr,zD,zE,eI])
   refine⟨i+1, [],li,by omega,?_⟩
   constructor<;>(try simp (maxSteps:=2000000) (disch:=omega) only [go_sem,simprocAttr,zD,zE,hal,hat,Nat.min_self,hpt,ir_snoc,eII,List.map_cons,List.map_nil])
  ·obtain rfl:i=out.length:=by omega
   (try simp (maxSteps:=2000000) (disch:=omega) only [go_sem,simprocAttr,zD,zE,List.take_length])
   exact⟨[0],⟨rfl,by simp [geAll],by simp [qas,qas.nin]⟩,rfl,rfl,rfl,qay _⟩
theorem qp2 (inn:List (Int × Int)) (a:Int):decide (0 < cntC a (cntM (qak inn)))=decide (a∈qak inn):=by
 rw [qfi]
 have:= @List.count_pos_iff Int _ _ a (qak inn)
 by_cases h:a∈qak inn
 ·have h2:=this.2 h
  simp [h]
 ·have h2:(qak inn).count a=0:=by
   rcases Nat.eq_zero_or_pos ((qak inn).count a) with q | q
   ·exact q
   ·exact absurd (this.1 q) h
  simp [h,h2]
abbrev bG (l:List (Int × Int)):IBlk:= .mp (mpC l)
theorem qhx (inn:List (Int × Int)) (x:Int × Int):PG Tryz.prog 137 [.agg [sci .i64 x.1,sci .i64 x.2], .ptr 0 0 0 0] [.arr 1 0 [[.mp 1]],bG (cntM (qak inn))] 0 (scb (decide (x.1∈qak inn)))
  [(0, .arr 1 0 [[.mp 1]]),(1,bG (cntM (qak inn)))]:=by
 rw [←qp2]
 refine qa1 200 (fn:=Tryz.f137) Tryz.func137 rfl (by simp [Tryz.ntmps137]) 2 rfl zC zC zC zC zC fun hs=>?_
 try refine zW ?_
 rw [qeF (l:=cntM (qak inn)) im ?hG]
 case hG=>rfl
 ((try refine zO ?_);(try with_reducible exact True.intro))
def idxG (inn:List (Int × Int)):Nat→List (Int × Int)→Int
 | _, []=> -1
 | i,m::r=>if m.1∈qak inn then i else idxG inn (i+1) r
theorem idxG_at (inn:List (Int × Int)): ∀(l:List (Int × Int)) (s:Nat),(idxG inn s l= -1∧ ∀m∈l,m.1 ∉ qak inn)∨ ∃k,k < l.length∧idxG inn s l=((s+k:Nat):Int)∧(∀m∈l.take k,m.1 ∉ qak inn)∧ ∀m,l[k]? =some m→m.1∈qak inn
 | [],s=> .inl ⟨rfl,by simp⟩
 | x::r,s=>by
   rw [idxG]
   split
   ·rename_i h
    exact .inr ⟨0,by simp,rfl,by simp,by simp [h]⟩
   ·rename_i h
    rcases idxG_at inn r (s+1) with ⟨e,h2⟩ | ⟨k,hk,e,h2,h3⟩
    ·refine .inl ⟨e,fun m hm=>?_⟩
     rcases List.mem_cons.1 hm with rfl | q
     ·exact h
     ·exact h2 m q
    ·refine .inr ⟨k+1,by simpa using hk,by rw [e];congr 1;omega,fun m hm=>?_,fun m hm=>h3 m (by simpa using hm)⟩
     rw [List.take_succ_cons] at hm
     rcases List.mem_cons.1 hm with rfl | q
     ·exact h
     ·exact h2 m q
theorem IndexG_spec (inn l:List (Int × Int)) (g:Nat) (hl:l.length≤1000000):PG Tryz.prog 107 [.ref 0 g 0 l.length, .clo (.func 137) [] [.ptr 1 0 0 0]]
  [.arr 2 g (ir eII l), .arr 1 0 [[.mp 2]],bG (cntM (qak inn))] 0 (sci .i64 (idxG inn 0 l)) [(0, .arr 2 g (ir eII l)),(1, .arr 1 0 [[.mp 2]]),(2,bG (cntM (qak inn)))]:=by
 refine qa1 200 (fn:=Tryz.f107) Tryz.func107 rfl (by simp [Tryz.ntmps107]) 3 rfl zC zC zC zC zC fun hs=>?_
 try refine zW ?_
 (refine walk_trim [0,1,7,8] trivial zL ?_;((try refine zW ?_);(try with_reducible exact True.intro)))
 refine qad 200 200 (fun i:Nat=>i≤l.length∧idxG inn 0 l=idxG inn i (l.drop i))
  (fun i=>⟨19, [(0, .ref 0 g 0 l.length),(1, .clo (.func 137) [] [.ptr 1 0 0 0]),(7,sci .i64 l.length),(8,sci .i64 i)], [],3, [(0, .arr 2 g (ir eII l)),(1, .arr 1 0 [[.mp 2]]),(2,bG (cntM (qak inn)))]⟩) (fun i=>l.length - i) (0) [] ?_ ?_ ?_
 ·simp
 ·constructor<;>(try simp (disch:=omega) only [go_sem,simprocAttr,zD,zE,Int.natCast_zero,List.take_of_length_le,List.append_assoc])
 ·rintro i hi
  obtain⟨hi,hinvi⟩:=hi
  try refine zW ?_
  by_cases li:i < l.length
  ·rw [List.drop_eq_getElem_cons li,idxG] at hinvi
   generalize hp:l[i]=p at *
   obtain⟨a,c⟩:=p
   simp only at hinvi
   (try simp (disch:=omega) only [go_sem,simprocAttr,zD,zE,eII,hp])
   (refine at_g 200 ?_;refine zW ?_;refine qav [1,2] (qhx inn (a,c)) zU ?_;((try refine zW ?_);(try with_reducible exact True.intro)))
   by_cases hk:a∈qak inn
   ·rw [if_pos hk] at hinvi
    (try simp (disch:=omega) only [go_sem,simprocAttr,zD,zE,hk,hinvi])
   ·rw [if_neg hk] at hinvi
    (try simp (disch:=omega) only [go_sem,simprocAttr,zD,zE,hk])
    refine⟨i+1, [],⟨li,hinvi⟩,by omega,?_⟩
    constructor<;>((try refine zO ?_);(try with_reducible exact True.intro))
  ·obtain rfl:i=l.length:=by omega
   rw [List.drop_length,idxG] at hinvi
   (try simp (disch:=omega) only [go_sem,simprocAttr,zD,zE,hinvi])
def delG (inn l:List (Int × Int)):List (Int × Int):=l.filter fun m=>decide (m.1 ∉ qak inn)
theorem qiV {inn l:List (Int × Int)} {j:Nat} (h:j < l.length):delG inn (l.take (j+1))=delG inn (l.take j)++(if l[j].1∈qak inn then [] else [l[j]]):=by
 rw [List.take_succ_eq_append_getElem h,delG,List.filter_append]
 congr 1
 by_cases hk:l[j].1∈qak inn<;>simp [hk]
theorem qko {inn l:List (Int × Int)} (h: ∀m∈l,m.1 ∉ qak inn):delG inn l=l:=List.filter_eq_self.2 fun m hm=>by simpa using h m hm
theorem qjY (inn l:List (Int × Int)) (g:Nat) (hl:l.length≤1000000):PG Tryz.prog 136 [.ref 0 g 0 l.length, .clo (.func 137) [] [.ptr 1 0 0 0]]
  [.arr 2 g (ir eII l), .arr 1 0 [[.mp 2]],bG (cntM (qak inn))] 0 (.ref 0 g 0 (delG inn l).length)
  [(0, .arr 2 g (ir eII (delG inn l++List.replicate (l.length - (delG inn l).length) (0,0)))),(1, .arr 1 0 [[.mp 2]]),(2,bG (cntM (qak inn)))]:=by
 refine qa1 200 (fn:=Tryz.f136) Tryz.func136 rfl (by simp [Tryz.ntmps136]) 3 rfl zC zC zC zC zC fun hs=>?_
 try refine zW ?_
 (refine at_g 200 ?_;refine zW ?_;refine qav [0,1,2] (IndexG_spec inn l g hl) zU ?_;((try refine zW ?_);(try with_reducible exact True.intro)))
 rcases idxG_at inn l 0 with ⟨e,h2⟩ | ⟨k,hk,e,h2,h3⟩
 ·rw [qko h2]
  (try simp (disch:=omega) only [go_sem,simprocAttr,zD,zE,e,Nat.sub_self,List.replicate_zero,List.append_nil])
 ·(try simp (disch:=omega) only [go_sem,simprocAttr,zD,zE,e,Nat.zero_add])
  (refine walk_trim [0,1,5,6] trivial zL ?_;((try refine zW ?_);(try with_reducible exact True.intro)))
  refine qad 200 200 (fun z:Nat × Nat × List (Int × Int)=>z.1≤l.length∧k < z.1∧z.2.1 < z.1∧z.2.2.length=l.length∧z.2.1=(delG inn (l.take z.1)).length∧z.2.2.take z.2.1=delG inn (l.take z.1)∧z.2.2.drop z.1=l.drop z.1)
   (fun z=>⟨42, [(0, .ref 0 g 0 l.length),(1, .clo (.func 137) [] [.ptr 1 0 0 0]),(5,sci .i64 z.2.1),(6,sci .i64 z.1)], [],3, [(0, .arr 2 g (ir eII z.2.2)),(1, .arr 1 0 [[.mp 2]]),(2,bG (cntM (qak inn)))]⟩)
   (fun z=>l.length - z.1) (k+1,k,l) [] ?_ ?_ ?_
  ·have e9:delG inn (l.take (k+1))=l.take k:=by
    rw [qiV hk,qko h2,if_pos (h3 _ (List.getElem?_eq_getElem hk)),List.append_nil]
   refine⟨hk,Nat.lt_succ_self k,Nat.lt_succ_self k,rfl,by rw [e9,List.length_take];show k=_;omega,by rw [e9],rfl⟩
  ·constructor<;>((try refine zO ?_);(try with_reducible exact True.intro))
  ·rintro⟨j,i,M⟩ ⟨i1,i2,i3,i4,i5,i6,i7⟩
   simp only at i1 i2 i3 i4 i5 i6 i7
   try refine zW ?_
   by_cases lj:j < l.length
   ·have hMj:M[j]? =some l[j]:=by
     have q:(M.drop j)[0]? =(l.drop j)[0]? :=by rw [i7]
     rw [List.getElem?_drop,List.getElem?_drop,Nat.add_zero,List.getElem?_eq_getElem lj] at q
     exact q
    have lM:j < M.length:=by omega
    have hMj':M[j]=l[j]:=by rw [List.getElem?_eq_getElem lM] at hMj;exact Option.some.inj hMj
    have hd:=qiV (inn:=inn) lj
    have hdr:M.drop (j+1)=l.drop (j+1):=by rw [←List.drop_drop,←List.drop_drop,i7]
    generalize hp:l[j]=p at *
    obtain⟨a,c⟩:=p
    simp only at hd
    (try simp (disch:=omega) only [go_sem,simprocAttr,zD,zE,i4,hMj',eII])
    (refine at_g 200 ?_;refine zW ?_;refine qav [1,2] (qhx inn (a,c)) zU ?_;((try refine zW ?_);(try with_reducible exact True.intro)))
    by_cases hk2:a∈qak inn
    ·rw [if_pos hk2,List.append_nil] at hd
     (try simp (disch:=omega) only [go_sem,simprocAttr,zD,zE,hk2])
     refine⟨(j+1,i,M), [],⟨lj,by simp only;omega,by simp only;omega,i4,by rw [hd];exact i5,by rw [hd];exact i6,hdr⟩,by simp only;omega,?_⟩
     constructor<;>((try refine zO ?_);(try with_reducible exact True.intro))
    ·rw [if_neg hk2] at hd
     have hset:(ir eII M).set i [IV.p (.sc (.int .i64 a)), .p (.sc (.int .i64 c))]=ir eII (M.set i (a,c)):=by simp only [ir,List.map_set];rfl
     (try simp (disch:=omega) only [go_sem,simprocAttr,zD,zE,hk2,i4])
     refine⟨(j+1,i+1,M.set i (a,c)), [],⟨lj,by simp only;omega,by simp only;omega,by simp only [List.length_set];exact i4,by rw [hd,List.length_append,←i5];rfl,?_,?_⟩,by simp only;omega,?_⟩
     ·simp only
      rw [hd,←i6,List.take_set,List.take_succ_eq_append_getElem (by omega:i < M.length),List.set_append_right _ _ (by rw [List.length_take];omega),List.length_take,Nat.min_eq_left (by omega),Nat.sub_self];rfl
     ·simp only
      rw [List.drop_set_of_lt (by omega),hdr]
     ·constructor<;>(try simp (disch:=omega) only [go_sem,simprocAttr,zD,zE,hset,eII,List.map_cons,List.map_nil,List.drop_succ_cons,List.drop_zero,List.drop_nil])
   ·obtain rfl:j=l.length:=by omega
    rw [List.take_length] at i5 i6
    have hdn:M.drop (i+(l.length - i))= []:=List.drop_eq_nil_of_le (by omega)
    try refine zO ?_
    rw [←i5,i6,hdn]
    refine⟨rfl,?_⟩
    have er:ir eII (delG inn l)++List.replicate (l.length - i) [IV.p (.sc (.int .i64 0)), .p (.sc (.int .i64 0))]++ir eII []=ir eII (delG inn l++List.replicate (l.length - i) (0,0)):=by
     simp only [ir,List.map_append,List.map_replicate,List.map_nil,List.append_nil];rfl
    rw [er]
    exact qay _
theorem qoy (out:List Int) (inn:List (Int × Int)):qbz out inn=delG inn (allM 0 out):=rfl
theorem qnL (out:List Int) (inn:List (Int × Int)) (h1:out.length≤1000000) (h2:inn.length≤1000000):Pure Tryz.prog 105 [lI out,lII inn] (lII (qbz out inn)):=by
 rw [qoy]
 refine qaf 200 (fn:=Tryz.f105) Tryz.func105 rfl (by simp [Tryz.ntmps105]) zB zB fun hs=>?_
 try refine zW ?_
 (refine at_g 200 ?_;refine zW ?_;refine qav [] (qio inn h2) zU ?_;((try refine zW ?_);(try with_reducible exact True.intro)))
 try refine zW ?_
 (refine at_g 200 ?_;refine zW ?_;refine qav [] (qke out h1) zU ?_;((try refine zW ?_);(try with_reducible exact True.intro)))
 try refine zW ?_
 have hal:=qec out 0
 have hD:=qjY inn (allM 0 out) out.length (by omega)
 rw [hal] at hD
 (refine at_g 200 ?_;refine zW ?_;refine qav [2,1,0] (hD) zU ?_;((try refine zW ?_);(try with_reducible exact True.intro)))
 rw [List.take_left]
def qcK (a:Int × Int):Nat→List (Int × Int)→Int
 | _, []=> -1
 | i,x::r=>if a.1=x.1∧a.2=x.2 then i else qcK a (i+1) r
theorem qhW {a:Int × Int}: ∀ {l:List (Int × Int)} {i:Nat},0≤qcK a i l↔a∈l
 | [],i=>by simp [qcK]
 | x::r,i=>by
   rw [qcK]
   split
   ·rename_i h
    have:a=x:=Prod.ext h.1 h.2
    simp [this]
   ·rename_i h
    have: ¬a=x:=fun e=>h ⟨congrArg _ e,congrArg _ e⟩
    rw [qhW (l:=r)];simp [this]
theorem qj3 (l:List (Int × Int)) (a:Int × Int):Pure Tryz.prog 148 [lII l, .agg [sci .i64 a.1,sci .i64 a.2]] (sci .i64 (qcK a 0 l)):=by
 obtain⟨a,b⟩:=a
 refine qaf 200 (fn:=Tryz.f148) Tryz.func148 rfl (by simp [Tryz.ntmps148]) zB zB fun hs=>?_
 simp only [go_sem,simprocAttr,maxLen] at hs
 try refine zO ?_
 (refine walk_trim [0,3,7,8] trivial zL ?_;((try refine zW ?_);(try with_reducible exact True.intro)))
 refine qad 200 200 (fun i:Nat=>i≤l.length∧qcK (a,b) i (l.drop i)=qcK (a,b) 0 l)
  (fun i=>⟨19, [(0,lII l),(3, .ptr 0 0 0 0),(7,sci .i64 l.length),(8,sci .i64 i)], [],1, [(0, .arr 2 0 [[sci .i64 a,sci .i64 b]])]⟩) (fun i=>l.length - i) (0) [] ?_ ?_ ?_
 ·simp
 ·constructor<;>(try simp (disch:=omega) only [go_sem,simprocAttr,zD,zE,Int.natCast_zero,List.take_of_length_le,List.append_assoc])
 ·rintro i hi
  obtain⟨hi,hinvi⟩:=hi
  try refine zW ?_
  by_cases li:i < l.length
  ·rw [List.drop_eq_getElem_cons li,qcK] at hinvi
   generalize hp:l[i]=p at *
   obtain⟨x,y⟩:=p
   simp only at hinvi
   (try simp (disch:=omega) only [go_sem,simprocAttr,zD,zE,eII,hp])
   (refine walk_trim [0,3,5,7,8] trivial zL ?_;refine zW ?_;refine irun_walk (id:=4) (n:=200) [none,none,none,none,none,none] qap (by kernel_rfl) ?_)
   (try simp (disch:=omega) only [go_sem,simprocAttr,zD,zE,eII,hp])
   by_cases e1:a=x
   ·by_cases e2:b=y
    ·rw [if_pos ⟨e1,e2⟩] at hinvi
     subst e1 e2
     (try simp (disch:=omega) only [go_sem,simprocAttr,zD,zE,←hinvi])
    ·rw [if_neg (fun h=>e2 h.2)] at hinvi
     subst e1
     (try simp (disch:=omega) only [go_sem,simprocAttr,zD,zE,e2])
     refine⟨i+1, [],⟨by first | assumption | omega,hinvi⟩,?_,?_⟩
     ·(try simp only []);omega
     ·constructor<;>(try simp (disch:=omega) only [go_sem,simprocAttr,zD,zE,List.append_assoc])
   ·rw [if_neg (fun h=>e1 h.1)] at hinvi
    (try simp (disch:=omega) only [go_sem,simprocAttr,zD,zE,e1])
    refine⟨i+1, [],⟨by first | assumption | omega,hinvi⟩,?_,?_⟩
    ·(try simp only []);omega
    ·constructor<;>(try simp (disch:=omega) only [go_sem,simprocAttr,zD,zE,List.append_assoc])
  ·obtain rfl:i=l.length:=by omega
   rw [List.drop_length,qcK] at hinvi
   (try simp (disch:=omega) only [go_sem,simprocAttr,zD,zE,←hinvi])
theorem qhq (l:List (Int × Int)) (a:Int × Int):Pure Tryz.prog 135 [lII l, .agg [sci .i64 a.1,sci .i64 a.2]] (scb (decide (a∈l))):=by
 have e:decide (a∈l)=decide (0≤qcK a 0 l):=by rw [decide_eq_decide];exact qhW.symm
 rw [e]
 refine qaf 200 (fn:=Tryz.f135) Tryz.func135 rfl (by simp [Tryz.ntmps135]) zB zB fun hs=>?_
 try refine zW ?_
 (refine qac 200 ?_;refine zW ?_;refine callA_of (qj3 l a) zB ?_;((try refine zW ?_);(try with_reducible exact True.intro)))
def MixM (out:List Int) (inn:List (Int × Int)) (m:Int × Int):Prop:=1 < (qak inn).count m.1∨m ∉ allM 0 out
instance (out:List Int) (inn:List (Int × Int)) (m:Int × Int):Decidable (MixM out inn m):=inferInstanceAs (Decidable (_∨_))
theorem qlx (out:List Int) (inn:List (Int × Int)) (x:Int × Int):PG Tryz.prog 134 [.agg [sci .i64 x.1,sci .i64 x.2], .ptr 0 0 0 0, .ptr 1 0 0 0] [.arr 1 0 [[.mp 2]], .arr 1 0 [[lII (allM 0 out)]],bG (cntM (qak inn))] 0
  (scb (decide (MixM out inn x))) [(0, .arr 1 0 [[.mp 2]]),(1, .arr 1 0 [[lII (allM 0 out)]]),(2,bG (cntM (qak inn)))]:=by
 obtain⟨a,b⟩:=x
 have hc:=qfi (qak inn) a
 refine qa1 200 (fn:=Tryz.f134) Tryz.func134 rfl (by simp [Tryz.ntmps134]) 3 rfl zC zC zC zC zC fun hs=>?_
 try refine zW ?_
 rw [qeF (l:=cntM (qak inn)) im ?hG]
 case hG=>rfl
 by_cases h1:1 < cntC a (cntM (qak inn))
 ·have e:decide (MixM out inn (a,b))=true:=decide_eq_true (.inl (by simp only;omega))
  (try simp (maxSteps:=2000000) (disch:=omega) only [go_sem,simprocAttr,zD,zE,h1,e])
 ·have e:decide (MixM out inn (a,b))=decide (¬(a,b)∈allM 0 out):=by
   rw [decide_eq_decide]
   exact⟨fun h=>h.resolve_left (by simp only;omega), .inr⟩
  (try simp (maxSteps:=2000000) (disch:=omega) only [go_sem,simprocAttr,zD,zE,h1])
  (refine qac 200 ?_;refine zW ?_;refine callA_of (qhq _ (a,b)) zB ?_;((try refine zW ?_);(try with_reducible exact True.intro)))
  rw [e]
  by_cases h2:(a,b)∈allM 0 out
  ·(try simp (maxSteps:=2000000) (disch:=omega) only [go_sem,simprocAttr,zD,zE,h2])
  ·(try simp (maxSteps:=2000000) (disch:=omega) only [go_sem,simprocAttr,zD,zE,h2])
def idxQ (out:List Int) (inn:List (Int × Int)):Nat→List (Int × Int)→Int
 | _, []=> -1
 | i,m::r=>if MixM out inn m then i else idxQ out inn (i+1) r
theorem qkB {out:List Int} {inn:List (Int × Int)}: ∀ {l:List (Int × Int)} {i:Nat},0≤idxQ out inn i l↔ ∃m∈l,MixM out inn m
 | [],i=>by simp [idxQ]
 | x::r,i=>by
   rw [idxQ]
   split
   ·rename_i h;simp [h]
   ·rename_i h
    rw [qkB (l:=r)];simp [h]
theorem qlu (out:List Int) (inn l:List (Int × Int)):PG Tryz.prog 107 [lII l, .clo (.func 134) [] [.ptr 0 0 0 0, .ptr 1 0 0 0]]
  [.arr 1 0 [[.mp 2]], .arr 1 0 [[lII (allM 0 out)]],bG (cntM (qak inn))] 0 (sci .i64 (idxQ out inn 0 l)) [(0, .arr 1 0 [[.mp 2]]),(1, .arr 1 0 [[lII (allM 0 out)]]),(2,bG (cntM (qak inn)))]:=by
 refine qa1 200 (fn:=Tryz.f107) Tryz.func107 rfl (by simp [Tryz.ntmps107]) 3 rfl zC zC zC zC zC fun hs=>?_
 simp only [go_sem,simprocAttr,maxLen] at hs
 try refine zW ?_
 (refine walk_trim [0,1,7,8] trivial zL ?_;((try refine zW ?_);(try with_reducible exact True.intro)))
 refine qad 200 200 (fun i:Nat=>i≤l.length∧idxQ out inn 0 l=idxQ out inn i (l.drop i))
  (fun i=>⟨19, [(0,lII l),(1, .clo (.func 134) [] [.ptr 0 0 0 0, .ptr 1 0 0 0]),(7,sci .i64 l.length),(8,sci .i64 i)], [],3, [(0, .arr 1 0 [[.mp 2]]),(1, .arr 1 0 [[lII (allM 0 out)]]),(2,bG (cntM (qak inn)))]⟩) (fun i=>l.length - i) (0) [] ?_ ?_ ?_
 ·simp
 ·constructor<;>(try simp (disch:=omega) only [go_sem,simprocAttr,zD,zE,Int.natCast_zero,List.take_of_length_le,List.append_assoc])
 ·rintro i hi
  obtain⟨hi,hinvi⟩:=hi
  try refine zW ?_
  by_cases li:i < l.length
  ·rw [List.drop_eq_getElem_cons li,idxQ] at hinvi
   generalize hp:l[i]=p at *
   (try simp (disch:=omega) only [go_sem,simprocAttr,zD,zE,eII,hp])
   (refine at_g 200 ?_;refine zW ?_;refine qav [0,1,2] (qlx out inn p) zU ?_;((try refine zW ?_);(try with_reducible exact True.intro)))
   by_cases hk:MixM out inn p
   ·rw [if_pos hk] at hinvi
    (try simp (disch:=omega) only [go_sem,simprocAttr,zD,zE,hk,hinvi])
   ·rw [if_neg hk] at hinvi
    (try simp (disch:=omega) only [go_sem,simprocAttr,zD,zE,hk])
    refine⟨i+1, [],⟨li,hinvi⟩,by omega,?_⟩
    constructor<;>((try refine zO ?_);(try with_reducible exact True.intro))
  ·obtain rfl:i=l.length:=by omega
   rw [List.drop_length,idxQ] at hinvi
   (try simp (disch:=omega) only [go_sem,simprocAttr,zD,zE,hinvi])
theorem qiw (out:List Int) (inn l:List (Int × Int)):PG Tryz.prog 133 [lII l, .clo (.func 134) [] [.ptr 0 0 0 0, .ptr 1 0 0 0]]
  [.arr 1 0 [[.mp 2]], .arr 1 0 [[lII (allM 0 out)]],bG (cntM (qak inn))] 0 (scb (tB (∃m∈l,MixM out inn m))) [(0, .arr 1 0 [[.mp 2]]),(1, .arr 1 0 [[lII (allM 0 out)]]),(2,bG (cntM (qak inn)))]:=by
 have e:tB (∃m∈l,MixM out inn m)=decide (0≤idxQ out inn 0 l):=by rw [←qdg];exact qcU qkB.symm
 rw [e]
 refine qa1 200 (fn:=Tryz.f133) Tryz.func133 rfl (by simp [Tryz.ntmps133]) 3 rfl zC zC zC zC zC fun hs=>?_
 try refine zW ?_
 (refine at_g 200 ?_;refine zW ?_;refine qav [0,1,2] (qlu out inn l) zU ?_;((try refine zW ?_);(try with_reducible exact True.intro)))
theorem qhv (out:List Int) (inn:List (Int × Int)) (h1:out.length≤1000000) (h2:inn.length≤1000000):Pure Tryz.prog 104 [lI out,lII inn] (scb (tB (MixP out inn))):=by
 refine qaf 200 (fn:=Tryz.f104) Tryz.func104 rfl (by simp [Tryz.ntmps104]) zB zB fun hs=>?_
 try refine zW ?_
 (refine at_g 200 ?_;refine zW ?_;refine qav [] (qio inn h2) zU ?_;((try refine zW ?_);(try with_reducible exact True.intro)))
 try refine zW ?_
 (refine at_g 200 ?_;refine zW ?_;refine qav [] (qke out h1) zU ?_;((try refine zW ?_);(try with_reducible exact True.intro)))
 have hat:(allM 0 out).take out.length=allM 0 out:=List.take_of_length_le (by rw [qec];omega)
 refine qbY 200 [1] ⟨14, [(11,lII inn),(12, .clo (.func 134) [] [.ptr 2 0 0 0, .ptr 3 0 0 0])], [],4, [(3, .arr 1 0 [[lII (allM 0 out)]]),(2, .arr 1 0 [[.mp 0]]),(0, .mp (mpC (cntM (qak inn))))]⟩ trivial ?_ ?_
 ·constructor<;>(try simp (maxSteps:=2000000) (disch:=omega) only [go_sem,simprocAttr,zD,zE,hat])
 try refine zW ?_
 (refine at_g 200 ?_;refine zW ?_;refine qav [2,3,0] (qiw out inn inn) zU ?_;((try refine zW ?_);(try with_reducible exact True.intro)))
 rfl
def MayC (l:List (Int × Int)) (e:Int):Prop:=GP.MayP e 0 l∧0≤e∧e≤500
theorem qot (l:List (Int × Int)) (n:Int):Pure Tryz.prog 71 [lII l,sci .i64 n] (scb (tB (MayC l n))):=by
 refine qaf 200 (fn:=Tryz.f71) Tryz.func71 rfl (by simp [Tryz.ntmps71]) zB zB fun hs=>?_
 simp only [go_sem,simprocAttr,maxLen] at hs
 obtain⟨ha, -⟩:=hs
 try refine zW ?_
 (refine walk_trim [1,5,8,9,10] trivial zL ?_;((try refine zW ?_);(try with_reducible exact True.intro)))
 refine qaP 200 200 (fun s:Nat × Int=>s.1≤l.length∧(GP.MayP n s.2 (l.drop s.1)↔GP.MayP n 0 l)) (fun s=>⟨43, [(1,sci .i64 n),(5,sci .i64 s.2),(8,lII l),(9,sci .i64 l.length),(10,sci .i64 s.1)], [],0, []⟩) (fun s=>l.length - s.1) (0,0) ?_ ?_ ?_
 ·simp
 ·constructor<;>(try simp (disch:=omega) only [go_sem,simprocAttr,zD,zE,Int.natCast_zero])
 ·rintro⟨i,last⟩ ⟨h1,h2⟩
  simp only at h1 h2
  try refine zW ?_
  by_cases hl:i < l.length
  ·have e0:l.drop i=l[i]::l.drop (i+1):=List.drop_eq_getElem_cons hl
   rw [e0] at h2
   (try simp (disch:=omega) only [go_sem,simprocAttr,zD,zE,eII])
   generalize l[i]=x at *
   obtain⟨sq,lt⟩:=x
   have bad: ¬(last < sq∧sq≤n∧0≤lt∧lt≤3)→tB (MayC l n)=false:=fun q=>qah fun h=>q (h2.2 h.1).1
   by_cases g1:sq≤last
   ·have e:=bad fun q=>by omega
    (try simp (disch:=omega) only [go_sem,simprocAttr,zD,zE,g1,e])
   by_cases g2:n < sq
   ·have e:=bad fun q=>by omega
    (try simp (disch:=omega) only [go_sem,simprocAttr,zD,zE,g1,g2,e])
   by_cases g3:lt < 0
   ·have e:=bad fun q=>by omega
    (try simp (disch:=omega) only [go_sem,simprocAttr,zD,zE,g1,g2,g3,e])
   by_cases g4:4≤lt
   ·have e:=bad fun q=>by omega
    (try simp (disch:=omega) only [go_sem,simprocAttr,zD,zE,g1,g2,g3,g4,e])
   (try simp (disch:=omega) only [go_sem,simprocAttr,zD,zE,g1,g2,g3,g4])
   refine⟨(i+1,sq),⟨hl,⟨fun q=>h2.1 ⟨⟨by omega,by omega,by omega,by omega⟩,q⟩,fun q=>(h2.2 q).2⟩⟩,by simp only;omega,?_⟩
   constructor<;>((try refine zO ?_);(try with_reducible exact True.intro))
  ·obtain rfl:i=l.length:=by omega
   have hM:GP.MayP n 0 l:=h2.1 (by rw [List.drop_length];trivial)
   by_cases g1:0≤n
   ·by_cases g2:n≤500
    ·have e:tB (MayC l n)=true:=qam ⟨hM,g1,g2⟩
     (try simp (disch:=omega) only [go_sem,simprocAttr,zD,zE,g1,g2,e])
    ·have e:tB (MayC l n)=false:=qah fun h=>g2 h.2.2
     (try simp (disch:=omega) only [go_sem,simprocAttr,zD,zE,g1,g2,e])
   ·have e:tB (MayC l n)=false:=qah fun h=>g1 h.2.1
    (try simp (disch:=omega) only [go_sem,simprocAttr,zD,zE,g1,e])
def qb0 (N:Int) (ls:List (Int × Int)) (T:List Nd) (S:List Int) (L:List (List (Int × Int))) (E:List Int):Prop:=
 TabP N ls T∧(S.length:Int)=N∧L.length=ls.length∧E.length=ls.length∧(∀(n:Nat) (s:Int),S[n]? =some s→0≤s∧ ∀x,T[n]? =some x→s < x.states.length)∧
  ∀(i:Nat) (l:List (Int × Int)),L[i]? =some l→ ∀e,E[i]? =some e→MayC l e
abbrev lCf (S:List Int) (L:List (List (Int × Int))) (E:List Int):IV:= .agg [lI S,lMs L,lI E]
theorem qly (N:Int) (ls:List (Int × Int)) (T:List Nd) (ff:Bool) (S:List Int) (L:List (List (Int × Int))) (E:List Int) (hT:qcq T) (hls:ls.length≤1000000):
  Pure Tryz.prog 25 [.agg [sci .i64 N,lII ls, .p (.imm 2 (pr eNd T)),scb ff],lCf S L E] (scb (tB (qb0 N ls T S L E))):=by
 have bad: ∀ {q:Prop},(qb0 N ls T S L E→q)→ ¬q→tB (qb0 N ls T S L E)=false:=fun f g=>qah fun h=>g (f h)
 refine qaf 200 (fn:=Tryz.f25) Tryz.func25 rfl (by simp [Tryz.ntmps25]) zB zB fun hs=>?_
 try refine zW ?_
 (refine qac 200 ?_;refine zW ?_;refine callA_of (qfJ N ls T hT) zB ?_;((try refine zW ?_);(try with_reducible exact True.intro)))
 by_cases hR:TabP N ls T
 rotate_left
 ·have eR:=qah hR
  have e:=bad (fun q=>q.1) hR
  (try simp (maxSteps:=2000000) (disch:=omega) only [go_sem,simprocAttr,zD,zE,eR,e])
 have eR:=qam hR
 by_cases h1:(S.length:Int)=N
 rotate_left
 ·have e:=bad (fun q=>q.2.1) h1
  (try simp (maxSteps:=2000000) (disch:=omega) only [go_sem,simprocAttr,zD,zE,eR,h1,e])
 by_cases h2:L.length=ls.length
 rotate_left
 ·have e:=bad (fun q=>q.2.2.1) h2
  have h2': ¬(L.length:Int)=ls.length:=by omega
  (try simp (maxSteps:=2000000) (disch:=omega) only [go_sem,simprocAttr,zD,zE,eR,h1,h2',e])
 by_cases h3:E.length=ls.length
 rotate_left
 ·have e:=bad (fun q=>q.2.2.2.1) h3
  have h3': ¬(E.length:Int)=ls.length:=by omega
  (try simp (maxSteps:=2000000) (disch:=omega) only [go_sem,simprocAttr,zD,zE,eR,h1,h2,h3',e])
 (try simp (maxSteps:=2000000) (disch:=omega) only [go_sem,simprocAttr,zD,zE,eR,h1,h2,h3])
 have hTl:(T.length:Int)=N:=hR.2.1
 have hN6:N≤6:=hR.1.2.1
 (refine walk_trim [2,3,45,46,47] trivial zL ?_;((try refine zW ?_);(try with_reducible exact True.intro)))
 refine qad 200 200 (fun i:Nat=>i≤S.length∧ ∀(k:Nat) (s:Int),k < i→S[k]? =some s→0≤s∧ ∀x,T[k]? =some x→s < x.states.length)
  (fun i=>⟨83, [(2, .ptr 0 0 0 0),(3, .ptr 1 0 0 0),(45,lI S),(46,sci .i64 N),(47,sci .i64 i)], [],2, [(1, .arr 3 0 [[lI S,lMs L,lI E]]),(0, .arr 4 0 [[sci .i64 N,lII ls, .p (.imm 2 (pr eNd T)),scb ff]])]⟩) (fun i=>S.length - i) (0) [] ?_ ?_ ?_
 ·simp
 ·constructor<;>(try simp (maxSteps:=2000000) (disch:=omega) only [go_sem,simprocAttr,zD,zE,Int.natCast_zero,List.take_of_length_le,List.append_assoc,h1])
 ·rintro i hi
  obtain⟨hi,hinvi⟩:=hi
  try refine zW ?_
  by_cases li:i < S.length
  ·have sn:=qaC (P:=fun k (s:Int)=>0≤s∧ ∀x,T[k]? =some x→s < x.states.length) li hinvi
   have bd: ¬(0≤S[i]∧ ∀x,T[i]? =some x→S[i] < x.states.length)→tB (qb0 N ls T S L E)=false:=fun q=>qah fun h=>q (h.2.2.2.2.1 i _ (List.getElem?_eq_getElem li))
   have lT:i < T.length:=by omega
   have li':(i:Int) < N:=by omega
   have hq:T[i]? =some T[i]:=List.getElem?_eq_getElem lT
   generalize hx:T[i]=x at *
   generalize hs2:S[i]=s at *
   obtain⟨st,ss⟩:=x
   by_cases g1:s < 0
   ·have e:=bd fun q=>by omega
    (try simp (maxSteps:=2000000) (disch:=omega) only [go_sem,simprocAttr,zD,zE,eI,hs2,g1,e])
   by_cases g2:(ss.length:Int)≤s
   ·have e:=bd fun q=>by have:=q.2 _ hq;simp only at this;omega
    (try simp (maxSteps:=2000000) (disch:=omega) only [go_sem,simprocAttr,zD,zE,eI,hs2,g1,hx,eNd,g2,e])
   (try simp (maxSteps:=2000000) (disch:=omega) only [go_sem,simprocAttr,zD,zE,eI,hs2,g1,hx,eNd,g2])
   refine⟨i+1, [],⟨li,sn ⟨by omega,fun x hx'=>by rw [hq] at hx';cases hx';simp only;omega⟩⟩,by omega,?_⟩
   constructor<;>(try simp (maxSteps:=2000000) (disch:=omega) only [go_sem,simprocAttr,zD,zE,h1])
  ·obtain rfl:i=S.length:=by omega
   have hS:=all_end hinvi
   try refine zO ?_
   (refine walk_trim [3,67,68,69] trivial zL ?_;((try refine zW ?_);(try with_reducible exact True.intro)))
   refine qad 200 200 (fun i:Nat=>i≤L.length∧ ∀(k:Nat) (l:List (Int × Int)),k < i→L[k]? =some l→ ∀e,E[k]? =some e→MayC l e)
    (fun i=>⟨83, [(3, .ptr 1 0 0 0),(67,lMs L),(68,sci .i64 ls.length),(69,sci .i64 i)], [],2, [(1, .arr 3 0 [[lI S,lMs L,lI E]])]⟩) (fun i=>L.length - i) (0) [] ?_ ?_ ?_
   ·simp
   ·constructor<;>(try simp (maxSteps:=2000000) (disch:=omega) only [go_sem,simprocAttr,zD,zE,Int.natCast_zero,List.take_of_length_le,List.append_assoc,h2])
   ·rintro i hi
    obtain⟨hi,hinvi⟩:=hi
    try refine zW ?_
    by_cases li:i < L.length
    ·have sn:=qaC (P:=fun k (l:List (Int × Int))=> ∀e,E[k]? =some e→MayC l e) li hinvi
     have lE:i < E.length:=by omega
     have li':(i:Int) < ls.length:=by omega
     have hq:E[i]? =some E[i]:=List.getElem?_eq_getElem lE
     have bd: ¬MayC L[i] E[i]→tB (qb0 N ls T S L E)=false:=fun q=>qah fun h=>q (h.2.2.2.2.2 i _ (List.getElem?_eq_getElem li) _ hq)
     generalize hx:E[i]=e at *
     generalize hs2:L[i]=l at *
     (try simp (maxSteps:=2000000) (disch:=omega) only [go_sem,simprocAttr,zD,zE,eMs,hs2,eI,hx])
     (refine qac 200 ?_;refine zW ?_;refine callA_of (qot l e) zB ?_;((try refine zW ?_);(try with_reducible exact True.intro)))
     by_cases g:MayC l e
     ·have eM:=qam g
      (try simp (maxSteps:=2000000) (disch:=omega) only [go_sem,simprocAttr,zD,zE,eM])
      refine⟨i+1, [],⟨li,sn fun e' he=>by rw [hq] at he;cases he;exact g⟩,by omega,?_⟩
      constructor<;>(try simp (maxSteps:=2000000) (disch:=omega) only [go_sem,simprocAttr,zD,zE,h2])
     ·have eM:=qah g
      have e:=bd g
      (try simp (maxSteps:=2000000) (disch:=omega) only [go_sem,simprocAttr,zD,zE,eM,e])
    ·obtain rfl:i=L.length:=by omega
     have hL:=all_end hinvi
     have e:tB (qb0 N ls T S L E)=true:=qam ⟨hR,h1,h2,h3,hS,hL⟩
     have li': ¬(L.length:Int) < ls.length:=by omega
     (try simp (maxSteps:=2000000) (disch:=omega) only [go_sem,simprocAttr,zD,zE,e])
theorem qlo (p:Pc):Pure Tryz.prog 65 [lPc p] (sci .i64 p.state):=by
 refine qaf 200 (fn:=Tryz.f65) Tryz.func65 rfl (by simp [Tryz.ntmps65]) zB zB fun hs=>?_
 ((try refine zW ?_);(try with_reducible exact True.intro))
theorem qny (f:FuncId) (of:Pc→Int) (hx:fxk Tryz.prog f=none) (hk:fnOk Tryz.prog f=true) (hf: ∀p,Pure Tryz.prog f [lPc p] (sci .i64 (of p))) (l:List Pc) (hl:l.length≤1000000):
  Pure Tryz.prog 56 [lPs l, .p (.sc (.func (.func f) #[] #[]))] (lI (l.map of)):=by
 refine qaf 200 (fn:=Tryz.f56) Tryz.func56 rfl (by simp [Tryz.ntmps56]) zB zB fun hs=>?_
 try refine zW ?_
 refine walk_own 5 1 trivial rfl (.inr rfl) ?_
 obtain⟨X,hX⟩: ∃X:List Int,X=l.map of:=⟨_,rfl⟩
 have hXl:X.length=l.length:=by rw [hX,List.length_map]
 have hXs: ∀(i:Nat) (li:i < l.length),X.take (i+1)=X.take i++ [of l[i]]:=fun i li=>by
  rw [hX,List.take_succ_eq_append_getElem (by rw [List.length_map];exact li),List.getElem_map]
 rw [←hX]
 clear hX
 (refine walk_trim [1,5,8,9,10] trivial zL ?_;((try refine zW ?_);(try with_reducible exact True.intro)))
 refine qad 200 200 (fun i:Nat=>i≤l.length)
  (fun i=>⟨22, [(1, .p (.sc (.func (.func f) #[] #[]))),(5, .ref 0 i 0 i),(8,lPs l),(9,sci .i64 l.length),(10,sci .i64 i)], [],1, [(0, .arr 1 i (ir eI (X.take i)))]⟩) (fun i=>l.length - i) (0) [] ?_ ?_ ?_
 ·simp
 ·constructor<;>(try simp (disch:=omega) only [go_sem,simprocAttr,zD,zE,Int.natCast_zero,List.take_of_length_le,List.append_assoc,List.take_zero])
 ·rintro i hi
  try refine zW ?_
  by_cases li:i < l.length
  ·have hpt:=hXs i li
   have htt:(X.take i).length=i:=by rw [List.length_take];omega
   have hti:(X.take i).take i=X.take i:=by rw [List.take_take,Nat.min_self]
   generalize hp:l[i]=p at *
   (try simp (disch:=omega) only [go_sem,simprocAttr,zD,zE,ePc,hp,hx])
   refine qac 200 ?_
   (try simp only [go_sem,simprocAttr,hk])
   refine callA_of (hf p) trivial ?_
   try refine zW ?_
   have hmm:min i (min i X.length)=i:=by omega
   (try simp (disch:=omega) only [go_sem,simprocAttr,zD,zE,hmm])
   refine⟨i+1, [],li,by omega,?_⟩
   constructor
   case blks=>
    (try simp (disch:=omega) only [go_sem,simprocAttr,zD,zE,hmm,hpt,hti,ir_snoc])
    exact⟨trivial,trivial⟩
   all_goals(try simp (disch:=omega) only [go_sem,simprocAttr,zD,zE,hmm])
  ·obtain rfl:i=l.length:=by omega
   have e:X.take l.length=X:=List.take_of_length_le (by omega)
   (try simp (disch:=omega) only [go_sem,simprocAttr,zD,zE,e])
end Go.Proofs.GY
