/- Facts that the proofs of this claim lean on. -/
import Derived.Test.YteebghpjgcacmaaGreatYPD
import Derived.Test.YteebghpjgcacmaaGreatYWb
import Derived.Test.YteebghpjgcacmaaGreatGCn
import Derived.Test.YteebghpjgcacmaaGreatGBo
set_option linter.unusedSimpArgs false
set_option linter.unusedVariables false
/- What was sent on a link and not got: the program's answer. -/
namespace Go.Proofs.GY
open Go Go.Idl Go.Proofs Go.GP
set_option maxHeartbeats 20000000
set_option maxRecDepth 100000
theorem im:IntMap Tryz.prog 213:=⟨3,3,by kernel_rfl,by kernel_rfl,by kernel_rfl,by kernel_rfl⟩
theorem times_spec (inn:List (Int × Int)) (hl:inn.length≤1000000):PG Tryz.prog 131 [lII inn] [] 1 (.mp 0) [(0, .mp (mpC (cntM (keysM inn))))]:=by
 refine pg_of 200 (fn:=Tryz.f131) Tryz.func131 rfl (by simp [Tryz.ntmps131]) 0 rfl zC zC zC zC zC fun hs=>?_
 (try simp (maxSteps:=2000000) only [go_sem,simprocAttr,fmkmap])
 (refine walk_trim [3,7,8,9] trivial zL ?_;((try refine zW ?_);(try with_reducible exact True.intro)))
 refine walk_floop 200 200 (fun i:Nat=>i≤inn.length)
  (fun i=>⟨20, [(3, .mp 0),(7,lII inn),(8,sci .i64 inn.length),(9,sci .i64 i)], [],1, [(0, .mp (mpC (cntM (keysM (inn.take i)))))]⟩) (fun i=>inn.length - i) (0) [] ?_ ?_ ?_
 ·simp
 ·constructor<;>(try simp (maxSteps:=2000000) (disch:=omega) only [go_sem,simprocAttr,zD,zE,Int.natCast_zero,List.take_of_length_le,List.append_assoc,List.take_zero,keysM,List.map_nil,cntM_nil,mpC_nil])
 ·rintro i hi
  ((try refine zW ?_);(try with_reducible exact True.intro))
  by_cases li:i < inn.length
  ·have hpt:keysM (inn.take (i+1))=keysM (inn.take i)++ [inn[i].1]:=by rw [List.take_succ_eq_append_getElem li,keysM,List.map_append];rfl
   have hb:=cntM_snoc (keysM (inn.take i)) inn[i].1
   rw [←hpt] at hb
   generalize hp:inn[i]=p at *
   obtain⟨a,c⟩:=p
   simp only at hb
   (try simp (maxSteps:=2000000) (disch:=omega) only [go_sem,simprocAttr,zD,zE,eII,hp])
   rw [flookup_mpC (l:=cntM (keysM (inn.take i))) im ?hG]
   case hG=>rfl
   have hcb:=cntM_count (keysM (inn.take i)) a
   have hcl:(keysM (inn.take i)).count a≤(keysM (inn.take i)).length:=List.count_le_length
   have hkl:(keysM (inn.take i)).length≤1000000:=by rw [keysM,List.length_map,List.length_take];omega
   have hw:cntC a (cntM (keysM (inn.take i)))+1 < 2 ^ 63:=by omega
   have hw0: -(2 ^ 63)≤cntC a (cntM (keysM (inn.take i)))+1:=by omega
   clear hcb hcl
   ((try refine zO ?_);(try with_reducible exact True.intro))
   rw [fmapupd_mpC (l:=cntM (keysM (inn.take i))) im ?hG2]
   case hG2=>rfl
   ((try refine zO ?_);(try with_reducible exact True.intro))
   refine⟨i+1, [],li,by omega,?_⟩
   constructor<;>(try simp (maxSteps:=2000000) (disch:=omega) only [go_sem,simprocAttr,zD,zE,hb])
  ·obtain rfl:i=inn.length:=by omega
   (try simp (maxSteps:=2000000) (disch:=omega) only [go_sem,simprocAttr,zD,zE,List.take_length])
   exact⟨[0],⟨rfl,by simp [geAll],by simp [apartN,apartN.nin]⟩,rfl,fzEs_refl _⟩
theorem all_spec (out:List Int) (hl:out.length≤1000000):PG Tryz.prog 132 [lI out] [] 1 (.ref 0 out.length 0 out.length) [(0, .arr 2 out.length (ir eII (allM 0 out)))]:=by
 refine pg_of 200 (fn:=Tryz.f132) Tryz.func132 rfl (by simp [Tryz.ntmps132]) 0 rfl zC zC zC zC zC fun hs=>?_
 ((try refine zW ?_);(try with_reducible exact True.intro))
 refine walk_own 3 2 trivial rfl (.inr rfl) ?_
 (refine walk_trim [3,6,7,8] trivial zL ?_;((try refine zW ?_);(try with_reducible exact True.intro)))
 refine walk_floop 200 200 (fun i:Nat=>i≤out.length)
  (fun i=>⟨22, [(3, .ref 0 i 0 i),(6,lI out),(7,sci .i64 out.length),(8,sci .i64 i)], [],1, [(0, .arr 2 i (ir eII (allM 0 (out.take i))))]⟩) (fun i=>out.length - i) (0) [] ?_ ?_ ?_
 ·simp
 ·constructor<;>(try simp (maxSteps:=2000000) (disch:=omega) only [go_sem,simprocAttr,zD,zE,Int.natCast_zero,List.take_of_length_le,List.append_assoc,List.take_zero,allM])
 ·rintro i hi
  ((try refine zW ?_);(try with_reducible exact True.intro))
  by_cases li:i < out.length
  ·have hpt:=allM_snoc out[i] (out.take i) 0
   rw [←List.take_succ_eq_append_getElem li,List.length_take,Nat.min_eq_left (by omega),Nat.zero_add] at hpt
   have hal:(allM 0 (out.take i)).length=i:=by rw [allM_len,List.length_take];omega
   have hat:(allM 0 (out.take i)).take i=allM 0 (out.take i):=List.take_of_length_le (by omega)
   (try simp (maxSteps:=2000000) (disch:=omega) only [go_sem,simprocAttr,zD,zE,eI])
   refine⟨i+1, [],li,by omega,?_⟩
   constructor<;>(try simp (maxSteps:=2000000) (disch:=omega) only [go_sem,simprocAttr,zD,zE,hal,hat,Nat.min_self,hpt,ir_snoc,eII,List.map_cons,List.map_nil])
  ·obtain rfl:i=out.length:=by omega
   (try simp (maxSteps:=2000000) (disch:=omega) only [go_sem,simprocAttr,zD,zE,List.take_length])
   exact⟨[0],⟨rfl,by simp [geAll],by simp [apartN,apartN.nin]⟩,rfl,rfl,rfl,fzRs_refl _⟩
theorem cnt_mem (inn:List (Int × Int)) (a:Int):decide (0 < cntC a (cntM (keysM inn)))=decide (a∈keysM inn):=by
 rw [cntM_count]
 have:= @List.count_pos_iff Int _ _ a (keysM inn)
 by_cases h:a∈keysM inn
 ·have h2:=this.2 h
  simp [h]
 ·have h2:(keysM inn).count a=0:=by
   rcases Nat.eq_zero_or_pos ((keysM inn).count a) with q | q
   ·exact q
   ·exact absurd (this.1 q) h
  simp [h,h2]
abbrev bG (l:List (Int × Int)):IBlk:= .mp (mpC l)
theorem Rest1_spec (inn:List (Int × Int)) (x:Int × Int):PG Tryz.prog 137 [.agg [sci .i64 x.1,sci .i64 x.2], .ptr 0 0 0 0] [.arr 1 0 [[.mp 1]],bG (cntM (keysM inn))] 0 (scb (decide (x.1∈keysM inn)))
  [(0, .arr 1 0 [[.mp 1]]),(1,bG (cntM (keysM inn)))]:=by
 rw [←cnt_mem]
 refine pg_of 200 (fn:=Tryz.f137) Tryz.func137 rfl (by simp [Tryz.ntmps137]) 2 rfl zC zC zC zC zC fun hs=>?_
 ((try refine zW ?_);(try with_reducible exact True.intro))
 rw [flookup_mpC (l:=cntM (keysM inn)) im ?hG]
 case hG=>rfl
 ((try refine zO ?_);(try with_reducible exact True.intro))
def idxG (inn:List (Int × Int)):Nat→List (Int × Int)→Int
 | _, []=> -1
 | i,m::r=>if m.1∈keysM inn then i else idxG inn (i+1) r
theorem idxG_at (inn:List (Int × Int)): ∀(l:List (Int × Int)) (s:Nat),(idxG inn s l= -1∧ ∀m∈l,m.1 ∉ keysM inn)∨ ∃k,k < l.length∧idxG inn s l=((s+k:Nat):Int)∧(∀m∈l.take k,m.1 ∉ keysM inn)∧ ∀m,l[k]? =some m→m.1∈keysM inn
 | [],s=> .inl ⟨rfl,by simp⟩
 | x::r,s=>by
   rw [idxG]
   split
   ·rename_i h
    exact .inr ⟨0,by simp,rfl,by simp,by simp [h]⟩
   ·rename_i h
    rcases idxG_at inn r (s+1) with ⟨e,h2⟩ | ⟨k,hk,e,h2,h3⟩
    ·refine .inl ⟨e,fun m hm=>?_⟩
     rcases List.mem_cons.1 hm with rfl | q
     ·exact h
     ·exact h2 m q
    ·refine .inr ⟨k+1,by simpa using hk,by rw [e];congr 1;omega,fun m hm=>?_,fun m hm=>h3 m (by simpa using hm)⟩
     rw [List.take_succ_cons] at hm
     rcases List.mem_cons.1 hm with rfl | q
     ·exact h
     ·exact h2 m q
theorem IndexG_spec (inn l:List (Int × Int)) (g:Nat) (hl:l.length≤1000000):PG Tryz.prog 107 [.ref 0 g 0 l.length, .clo (.func 137) [] [.ptr 1 0 0 0]]
  [.arr 2 g (ir eII l), .arr 1 0 [[.mp 2]],bG (cntM (keysM inn))] 0 (sci .i64 (idxG inn 0 l)) [(0, .arr 2 g (ir eII l)),(1, .arr 1 0 [[.mp 2]]),(2,bG (cntM (keysM inn)))]:=by
 refine pg_of 200 (fn:=Tryz.f107) Tryz.func107 rfl (by simp [Tryz.ntmps107]) 3 rfl zC zC zC zC zC fun hs=>?_
 ((try refine zW ?_);(try with_reducible exact True.intro))
 (refine walk_trim [0,1,7,8] trivial zL ?_;((try refine zW ?_);(try with_reducible exact True.intro)))
 refine walk_floop 200 200 (fun i:Nat=>i≤l.length∧idxG inn 0 l=idxG inn i (l.drop i))
  (fun i=>⟨19, [(0, .ref 0 g 0 l.length),(1, .clo (.func 137) [] [.ptr 1 0 0 0]),(7,sci .i64 l.length),(8,sci .i64 i)], [],3, [(0, .arr 2 g (ir eII l)),(1, .arr 1 0 [[.mp 2]]),(2,bG (cntM (keysM inn)))]⟩) (fun i=>l.length - i) (0) [] ?_ ?_ ?_
 ·simp
 ·constructor<;>(try simp (disch:=omega) only [go_sem,simprocAttr,zD,zE,Int.natCast_zero,List.take_of_length_le,List.append_assoc])
 ·rintro i hi
  obtain⟨hi,hinvi⟩:=hi
  ((try refine zW ?_);(try with_reducible exact True.intro))
  by_cases li:i < l.length
  ·rw [List.drop_eq_getElem_cons li,idxG] at hinvi
   generalize hp:l[i]=p at *
   obtain⟨a,c⟩:=p
   simp only at hinvi
   (try simp (disch:=omega) only [go_sem,simprocAttr,zD,zE,eII,hp])
   (refine at_g 200 ?_;(refine zW ?_;try with_reducible exact True.intro);refine callG_of [1,2] (Rest1_spec inn (a,c)) zU ?_;((try refine zW ?_);(try with_reducible exact True.intro)))
   by_cases hk:a∈keysM inn
   ·rw [if_pos hk] at hinvi
    (try simp (disch:=omega) only [go_sem,simprocAttr,zD,zE,hk,hinvi])
   ·rw [if_neg hk] at hinvi
    (try simp (disch:=omega) only [go_sem,simprocAttr,zD,zE,hk])
    refine⟨i+1, [],⟨li,hinvi⟩,by omega,?_⟩
    constructor<;>((try refine zO ?_);(try with_reducible exact True.intro))
  ·obtain rfl:i=l.length:=by omega
   rw [List.drop_length,idxG] at hinvi
   (try simp (disch:=omega) only [go_sem,simprocAttr,zD,zE,hinvi])
def delG (inn l:List (Int × Int)):List (Int × Int):=l.filter fun m=>decide (m.1 ∉ keysM inn)
theorem delG_take {inn l:List (Int × Int)} {j:Nat} (h:j < l.length):delG inn (l.take (j+1))=delG inn (l.take j)++(if l[j].1∈keysM inn then [] else [l[j]]):=by
 rw [List.take_succ_eq_append_getElem h,delG,List.filter_append]
 congr 1
 by_cases hk:l[j].1∈keysM inn<;>simp [hk]
theorem delG_all {inn l:List (Int × Int)} (h: ∀m∈l,m.1 ∉ keysM inn):delG inn l=l:=List.filter_eq_self.2 fun m hm=>by simpa using h m hm
theorem DeleteG_spec (inn l:List (Int × Int)) (g:Nat) (hl:l.length≤1000000):PG Tryz.prog 136 [.ref 0 g 0 l.length, .clo (.func 137) [] [.ptr 1 0 0 0]]
  [.arr 2 g (ir eII l), .arr 1 0 [[.mp 2]],bG (cntM (keysM inn))] 0 (.ref 0 g 0 (delG inn l).length)
  [(0, .arr 2 g (ir eII (delG inn l++List.replicate (l.length - (delG inn l).length) (0,0)))),(1, .arr 1 0 [[.mp 2]]),(2,bG (cntM (keysM inn)))]:=by
 refine pg_of 200 (fn:=Tryz.f136) Tryz.func136 rfl (by simp [Tryz.ntmps136]) 3 rfl zC zC zC zC zC fun hs=>?_
 ((try refine zW ?_);(try with_reducible exact True.intro))
 (refine at_g 200 ?_;(refine zW ?_;try with_reducible exact True.intro);refine callG_of [0,1,2] (IndexG_spec inn l g hl) zU ?_;((try refine zW ?_);(try with_reducible exact True.intro)))
 rcases idxG_at inn l 0 with ⟨e,h2⟩ | ⟨k,hk,e,h2,h3⟩
 ·rw [delG_all h2]
  (try simp (disch:=omega) only [go_sem,simprocAttr,zD,zE,e,Nat.sub_self,List.replicate_zero,List.append_nil])
 ·(try simp (disch:=omega) only [go_sem,simprocAttr,zD,zE,e,Nat.zero_add])
  (refine walk_trim [0,1,5,6] trivial zL ?_;((try refine zW ?_);(try with_reducible exact True.intro)))
  refine walk_floop 200 200 (fun z:Nat × Nat × List (Int × Int)=>z.1≤l.length∧k < z.1∧z.2.1 < z.1∧z.2.2.length=l.length∧z.2.1=(delG inn (l.take z.1)).length∧z.2.2.take z.2.1=delG inn (l.take z.1)∧z.2.2.drop z.1=l.drop z.1)
   (fun z=>⟨42, [(0, .ref 0 g 0 l.length),(1, .clo (.func 137) [] [.ptr 1 0 0 0]),(5,sci .i64 z.2.1),(6,sci .i64 z.1)], [],3, [(0, .arr 2 g (ir eII z.2.2)),(1, .arr 1 0 [[.mp 2]]),(2,bG (cntM (keysM inn)))]⟩)
   (fun z=>l.length - z.1) (k+1,k,l) [] ?_ ?_ ?_
  ·have e9:delG inn (l.take (k+1))=l.take k:=by
    rw [delG_take hk,delG_all h2,if_pos (h3 _ (List.getElem?_eq_getElem hk)),List.append_nil]
   refine⟨hk,Nat.lt_succ_self k,Nat.lt_succ_self k,rfl,by rw [e9,List.length_take];show k=_;omega,by rw [e9],rfl⟩
  ·constructor<;>((try refine zO ?_);(try with_reducible exact True.intro))
  ·rintro⟨j,i,M⟩ ⟨i1,i2,i3,i4,i5,i6,i7⟩
   simp only at i1 i2 i3 i4 i5 i6 i7
   ((try refine zW ?_);(try with_reducible exact True.intro))
   by_cases lj:j < l.length
   ·have hMj:M[j]? =some l[j]:=by
     have q:(M.drop j)[0]? =(l.drop j)[0]? :=by rw [i7]
     rw [List.getElem?_drop,List.getElem?_drop,Nat.add_zero,List.getElem?_eq_getElem lj] at q
     exact q
    have lM:j < M.length:=by omega
    have hMj':M[j]=l[j]:=by rw [List.getElem?_eq_getElem lM] at hMj;exact Option.some.inj hMj
    have hd:=delG_take (inn:=inn) lj
    have hdr:M.drop (j+1)=l.drop (j+1):=by rw [←List.drop_drop,←List.drop_drop,i7]
    generalize hp:l[j]=p at *
    obtain⟨a,c⟩:=p
    simp only at hd
    (try simp (disch:=omega) only [go_sem,simprocAttr,zD,zE,i4,hMj',eII])
    (refine at_g 200 ?_;(refine zW ?_;try with_reducible exact True.intro);refine callG_of [1,2] (Rest1_spec inn (a,c)) zU ?_;((try refine zW ?_);(try with_reducible exact True.intro)))
    by_cases hk2:a∈keysM inn
    ·rw [if_pos hk2,List.append_nil] at hd
     (try simp (disch:=omega) only [go_sem,simprocAttr,zD,zE,hk2])
     refine⟨(j+1,i,M), [],⟨lj,by simp only;omega,by simp only;omega,i4,by rw [hd];exact i5,by rw [hd];exact i6,hdr⟩,by simp only;omega,?_⟩
     constructor<;>((try refine zO ?_);(try with_reducible exact True.intro))
    ·rw [if_neg hk2] at hd
     have hset:(ir eII M).set i [IV.p (.sc (.int .i64 a)), .p (.sc (.int .i64 c))]=ir eII (M.set i (a,c)):=by simp only [ir,List.map_set];rfl
     (try simp (disch:=omega) only [go_sem,simprocAttr,zD,zE,hk2,i4])
     refine⟨(j+1,i+1,M.set i (a,c)), [],⟨lj,by simp only;omega,by simp only;omega,by simp only [List.length_set];exact i4,by rw [hd,List.length_append,←i5];rfl,?_,?_⟩,by simp only;omega,?_⟩
     ·simp only
      rw [hd,←i6,List.take_set,List.take_succ_eq_append_getElem (by omega:i < M.length),List.set_append_right _ _ (by rw [List.length_take];omega),List.length_take,Nat.min_eq_left (by omega),Nat.sub_self];rfl
     ·simp only
      rw [List.drop_set_of_lt (by omega),hdr]
     ·constructor<;>(try simp (disch:=omega) only [go_sem,simprocAttr,zD,zE,hset,eII,List.map_cons,List.map_nil,List.drop_succ_cons,List.drop_zero,List.drop_nil])
   ·obtain rfl:j=l.length:=by omega
    rw [List.take_length] at i5 i6
    have hdn:M.drop (i+(l.length - i))= []:=List.drop_eq_nil_of_le (by omega)
    ((try refine zO ?_);(try with_reducible exact True.intro))
    rw [←i5,i6,hdn]
    refine⟨rfl,?_⟩
    have er:ir eII (delG inn l)++List.replicate (l.length - i) [IV.p (.sc (.int .i64 0)), .p (.sc (.int .i64 0))]++ir eII []=ir eII (delG inn l++List.replicate (l.length - i) (0,0)):=by
     simp only [ir,List.map_append,List.map_replicate,List.map_nil,List.append_nil];rfl
    rw [er]
    exact fzRs_refl _
theorem restL_del (out:List Int) (inn:List (Int × Int)):restL out inn=delG inn (allM 0 out):=rfl
theorem Rest_spec (out:List Int) (inn:List (Int × Int)) (h1:out.length≤1000000) (h2:inn.length≤1000000):Pure Tryz.prog 105 [lI out,lII inn] (lII (restL out inn)):=by
 rw [restL_del]
 refine pcall0 200 (fn:=Tryz.f105) Tryz.func105 rfl (by simp [Tryz.ntmps105]) zB zB fun hs=>?_
 ((try refine zW ?_);(try with_reducible exact True.intro))
 (refine at_g 200 ?_;(refine zW ?_;try with_reducible exact True.intro);refine callG_of [] (times_spec inn h2) zU ?_;((try refine zW ?_);(try with_reducible exact True.intro)))
 ((try refine zW ?_);(try with_reducible exact True.intro))
 (refine at_g 200 ?_;(refine zW ?_;try with_reducible exact True.intro);refine callG_of [] (all_spec out h1) zU ?_;((try refine zW ?_);(try with_reducible exact True.intro)))
 ((try refine zW ?_);(try with_reducible exact True.intro))
 have hal:=allM_len out 0
 have hD:=DeleteG_spec inn (allM 0 out) out.length (by omega)
 rw [hal] at hD
 (refine at_g 200 ?_;(refine zW ?_;try with_reducible exact True.intro);refine callG_of [2,1,0] (hD) zU ?_;((try refine zW ?_);(try with_reducible exact True.intro)))
 rw [List.take_left]
end Go.Proofs.GY
/- Whether something was got that was not sent: the program's answer. -/
namespace Go.Proofs.GY
open Go Go.Idl Go.Proofs Go.GP
set_option maxHeartbeats 20000000
set_option maxRecDepth 100000
def indexM (a:Int × Int):Nat→List (Int × Int)→Int
 | _, []=> -1
 | i,x::r=>if a.1=x.1∧a.2=x.2 then i else indexM a (i+1) r
theorem indexM_mem {a:Int × Int}: ∀ {l:List (Int × Int)} {i:Nat},0≤indexM a i l↔a∈l
 | [],i=>by simp [indexM]
 | x::r,i=>by
   rw [indexM]
   split
   ·rename_i h
    have:a=x:=Prod.ext h.1 h.2
    simp [this]
   ·rename_i h
    have: ¬a=x:=fun e=>h ⟨congrArg _ e,congrArg _ e⟩
    rw [indexM_mem (l:=r)];simp [this]
theorem IndexMs_spec (l:List (Int × Int)) (a:Int × Int):Pure Tryz.prog 148 [lII l, .agg [sci .i64 a.1,sci .i64 a.2]] (sci .i64 (indexM a 0 l)):=by
 obtain⟨a,b⟩:=a
 refine pcall0 200 (fn:=Tryz.f148) Tryz.func148 rfl (by simp [Tryz.ntmps148]) zB zB fun hs=>?_
 simp only [go_sem,simprocAttr,maxLen] at hs
 ((try refine zO ?_);(try with_reducible exact True.intro))
 (refine walk_trim [0,3,7,8] trivial zL ?_;((try refine zW ?_);(try with_reducible exact True.intro)))
 refine walk_floop 200 200 (fun i:Nat=>i≤l.length∧indexM (a,b) i (l.drop i)=indexM (a,b) 0 l)
  (fun i=>⟨19, [(0,lII l),(3, .ptr 0 0 0 0),(7,sci .i64 l.length),(8,sci .i64 i)], [],1, [(0, .arr 2 0 [[sci .i64 a,sci .i64 b]])]⟩) (fun i=>l.length - i) (0) [] ?_ ?_ ?_
 ·simp
 ·constructor<;>(try simp (disch:=omega) only [go_sem,simprocAttr,zD,zE,Int.natCast_zero,List.take_of_length_le,List.append_assoc])
 ·rintro i hi
  obtain⟨hi,hinvi⟩:=hi
  ((try refine zW ?_);(try with_reducible exact True.intro))
  by_cases li:i < l.length
  ·rw [List.drop_eq_getElem_cons li,indexM] at hinvi
   generalize hp:l[i]=p at *
   obtain⟨x,y⟩:=p
   simp only at hinvi
   (try simp (disch:=omega) only [go_sem,simprocAttr,zD,zE,eII,hp])
   (refine walk_trim [0,3,5,7,8] trivial zL ?_;(refine zW ?_;try with_reducible exact True.intro);refine irun_walk (id:=4) (n:=200) [none,none,none,none,none,none] mixed (by kernel_rfl) ?_)
   (try simp (disch:=omega) only [go_sem,simprocAttr,zD,zE,eII,hp])
   by_cases e1:a=x
   ·by_cases e2:b=y
    ·rw [if_pos ⟨e1,e2⟩] at hinvi
     subst e1 e2
     (try simp (disch:=omega) only [go_sem,simprocAttr,zD,zE,←hinvi])
    ·rw [if_neg (fun h=>e2 h.2)] at hinvi
     subst e1
     (try simp (disch:=omega) only [go_sem,simprocAttr,zD,zE,e2])
     refine⟨i+1, [],⟨by first | assumption | omega,hinvi⟩,?_,?_⟩
     ·(try simp only []);omega
     ·constructor<;>(try simp (disch:=omega) only [go_sem,simprocAttr,zD,zE,List.append_assoc])
   ·rw [if_neg (fun h=>e1 h.1)] at hinvi
    (try simp (disch:=omega) only [go_sem,simprocAttr,zD,zE,e1])
    refine⟨i+1, [],⟨by first | assumption | omega,hinvi⟩,?_,?_⟩
    ·(try simp only []);omega
    ·constructor<;>(try simp (disch:=omega) only [go_sem,simprocAttr,zD,zE,List.append_assoc])
  ·obtain rfl:i=l.length:=by omega
   rw [List.drop_length,indexM] at hinvi
   (try simp (disch:=omega) only [go_sem,simprocAttr,zD,zE,←hinvi])
theorem ContainsMs_spec (l:List (Int × Int)) (a:Int × Int):Pure Tryz.prog 135 [lII l, .agg [sci .i64 a.1,sci .i64 a.2]] (scb (decide (a∈l))):=by
 have e:decide (a∈l)=decide (0≤indexM a 0 l):=by rw [decide_eq_decide];exact indexM_mem.symm
 rw [e]
 refine pcall0 200 (fn:=Tryz.f135) Tryz.func135 rfl (by simp [Tryz.ntmps135]) zB zB fun hs=>?_
 ((try refine zW ?_);(try with_reducible exact True.intro))
 (refine at_call 200 ?_;(refine zW ?_;try with_reducible exact True.intro);refine callA_of (IndexMs_spec l a) zB ?_;((try refine zW ?_);(try with_reducible exact True.intro)))
def MixM (out:List Int) (inn:List (Int × Int)) (m:Int × Int):Prop:=1 < (keysM inn).count m.1∨m ∉ allM 0 out
instance (out:List Int) (inn:List (Int × Int)) (m:Int × Int):Decidable (MixM out inn m):=inferInstanceAs (Decidable (_∨_))
theorem Mixed1_spec (out:List Int) (inn:List (Int × Int)) (x:Int × Int):PG Tryz.prog 134 [.agg [sci .i64 x.1,sci .i64 x.2], .ptr 0 0 0 0, .ptr 1 0 0 0] [.arr 1 0 [[.mp 2]], .arr 1 0 [[lII (allM 0 out)]],bG (cntM (keysM inn))] 0
  (scb (decide (MixM out inn x))) [(0, .arr 1 0 [[.mp 2]]),(1, .arr 1 0 [[lII (allM 0 out)]]),(2,bG (cntM (keysM inn)))]:=by
 obtain⟨a,b⟩:=x
 have hc:=cntM_count (keysM inn) a
 refine pg_of 200 (fn:=Tryz.f134) Tryz.func134 rfl (by simp [Tryz.ntmps134]) 3 rfl zC zC zC zC zC fun hs=>?_
 ((try refine zW ?_);(try with_reducible exact True.intro))
 rw [flookup_mpC (l:=cntM (keysM inn)) im ?hG]
 case hG=>rfl
 by_cases h1:1 < cntC a (cntM (keysM inn))
 ·have e:decide (MixM out inn (a,b))=true:=decide_eq_true (.inl (by simp only;omega))
  (try simp (maxSteps:=2000000) (disch:=omega) only [go_sem,simprocAttr,zD,zE,h1,e])
 ·have e:decide (MixM out inn (a,b))=decide (¬(a,b)∈allM 0 out):=by
   rw [decide_eq_decide]
   exact⟨fun h=>h.resolve_left (by simp only;omega), .inr⟩
  (try simp (maxSteps:=2000000) (disch:=omega) only [go_sem,simprocAttr,zD,zE,h1])
  (refine at_call 200 ?_;(refine zW ?_;try with_reducible exact True.intro);refine callA_of (ContainsMs_spec _ (a,b)) zB ?_;((try refine zW ?_);(try with_reducible exact True.intro)))
  rw [e]
  by_cases h2:(a,b)∈allM 0 out
  ·(try simp (maxSteps:=2000000) (disch:=omega) only [go_sem,simprocAttr,zD,zE,h2])
  ·(try simp (maxSteps:=2000000) (disch:=omega) only [go_sem,simprocAttr,zD,zE,h2])
def idxQ (out:List Int) (inn:List (Int × Int)):Nat→List (Int × Int)→Int
 | _, []=> -1
 | i,m::r=>if MixM out inn m then i else idxQ out inn (i+1) r
theorem idxQ_mem {out:List Int} {inn:List (Int × Int)}: ∀ {l:List (Int × Int)} {i:Nat},0≤idxQ out inn i l↔ ∃m∈l,MixM out inn m
 | [],i=>by simp [idxQ]
 | x::r,i=>by
   rw [idxQ]
   split
   ·rename_i h;simp [h]
   ·rename_i h
    rw [idxQ_mem (l:=r)];simp [h]
theorem IndexQ_spec (out:List Int) (inn l:List (Int × Int)):PG Tryz.prog 107 [lII l, .clo (.func 134) [] [.ptr 0 0 0 0, .ptr 1 0 0 0]]
  [.arr 1 0 [[.mp 2]], .arr 1 0 [[lII (allM 0 out)]],bG (cntM (keysM inn))] 0 (sci .i64 (idxQ out inn 0 l)) [(0, .arr 1 0 [[.mp 2]]),(1, .arr 1 0 [[lII (allM 0 out)]]),(2,bG (cntM (keysM inn)))]:=by
 refine pg_of 200 (fn:=Tryz.f107) Tryz.func107 rfl (by simp [Tryz.ntmps107]) 3 rfl zC zC zC zC zC fun hs=>?_
 simp only [go_sem,simprocAttr,maxLen] at hs
 ((try refine zW ?_);(try with_reducible exact True.intro))
 (refine walk_trim [0,1,7,8] trivial zL ?_;((try refine zW ?_);(try with_reducible exact True.intro)))
 refine walk_floop 200 200 (fun i:Nat=>i≤l.length∧idxQ out inn 0 l=idxQ out inn i (l.drop i))
  (fun i=>⟨19, [(0,lII l),(1, .clo (.func 134) [] [.ptr 0 0 0 0, .ptr 1 0 0 0]),(7,sci .i64 l.length),(8,sci .i64 i)], [],3, [(0, .arr 1 0 [[.mp 2]]),(1, .arr 1 0 [[lII (allM 0 out)]]),(2,bG (cntM (keysM inn)))]⟩) (fun i=>l.length - i) (0) [] ?_ ?_ ?_
 ·simp
 ·constructor<;>(try simp (disch:=omega) only [go_sem,simprocAttr,zD,zE,Int.natCast_zero,List.take_of_length_le,List.append_assoc])
 ·rintro i hi
  obtain⟨hi,hinvi⟩:=hi
  ((try refine zW ?_);(try with_reducible exact True.intro))
  by_cases li:i < l.length
  ·rw [List.drop_eq_getElem_cons li,idxQ] at hinvi
   generalize hp:l[i]=p at *
   (try simp (disch:=omega) only [go_sem,simprocAttr,zD,zE,eII,hp])
   (refine at_g 200 ?_;(refine zW ?_;try with_reducible exact True.intro);refine callG_of [0,1,2] (Mixed1_spec out inn p) zU ?_;((try refine zW ?_);(try with_reducible exact True.intro)))
   by_cases hk:MixM out inn p
   ·rw [if_pos hk] at hinvi
    (try simp (disch:=omega) only [go_sem,simprocAttr,zD,zE,hk,hinvi])
   ·rw [if_neg hk] at hinvi
    (try simp (disch:=omega) only [go_sem,simprocAttr,zD,zE,hk])
    refine⟨i+1, [],⟨li,hinvi⟩,by omega,?_⟩
    constructor<;>((try refine zO ?_);(try with_reducible exact True.intro))
  ·obtain rfl:i=l.length:=by omega
   rw [List.drop_length,idxQ] at hinvi
   (try simp (disch:=omega) only [go_sem,simprocAttr,zD,zE,hinvi])
theorem ContainsQ_spec (out:List Int) (inn l:List (Int × Int)):PG Tryz.prog 133 [lII l, .clo (.func 134) [] [.ptr 0 0 0 0, .ptr 1 0 0 0]]
  [.arr 1 0 [[.mp 2]], .arr 1 0 [[lII (allM 0 out)]],bG (cntM (keysM inn))] 0 (scb (tB (∃m∈l,MixM out inn m))) [(0, .arr 1 0 [[.mp 2]]),(1, .arr 1 0 [[lII (allM 0 out)]]),(2,bG (cntM (keysM inn)))]:=by
 have e:tB (∃m∈l,MixM out inn m)=decide (0≤idxQ out inn 0 l):=by rw [←tB_dec];exact tB_congr idxQ_mem.symm
 rw [e]
 refine pg_of 200 (fn:=Tryz.f133) Tryz.func133 rfl (by simp [Tryz.ntmps133]) 3 rfl zC zC zC zC zC fun hs=>?_
 ((try refine zW ?_);(try with_reducible exact True.intro))
 (refine at_g 200 ?_;(refine zW ?_;try with_reducible exact True.intro);refine callG_of [0,1,2] (IndexQ_spec out inn l) zU ?_;((try refine zW ?_);(try with_reducible exact True.intro)))
theorem Mixed_spec (out:List Int) (inn:List (Int × Int)) (h1:out.length≤1000000) (h2:inn.length≤1000000):Pure Tryz.prog 104 [lI out,lII inn] (scb (tB (MixP out inn))):=by
 refine pcall0 200 (fn:=Tryz.f104) Tryz.func104 rfl (by simp [Tryz.ntmps104]) zB zB fun hs=>?_
 ((try refine zW ?_);(try with_reducible exact True.intro))
 (refine at_g 200 ?_;(refine zW ?_;try with_reducible exact True.intro);refine callG_of [] (times_spec inn h2) zU ?_;((try refine zW ?_);(try with_reducible exact True.intro)))
 ((try refine zW ?_);(try with_reducible exact True.intro))
 (refine at_g 200 ?_;(refine zW ?_;try with_reducible exact True.intro);refine callG_of [] (all_spec out h1) zU ?_;((try refine zW ?_);(try with_reducible exact True.intro)))
 have hat:(allM 0 out).take out.length=allM 0 out:=List.take_of_length_le (by rw [allM_len];omega)
 refine walk_fcut 200 [1] ⟨14, [(11,lII inn),(12, .clo (.func 134) [] [.ptr 2 0 0 0, .ptr 3 0 0 0])], [],4, [(3, .arr 1 0 [[lII (allM 0 out)]]),(2, .arr 1 0 [[.mp 0]]),(0, .mp (mpC (cntM (keysM inn))))]⟩ trivial ?_ ?_
 ·constructor<;>(try simp (maxSteps:=2000000) (disch:=omega) only [go_sem,simprocAttr,zD,zE,hat])
 ((try refine zW ?_);(try with_reducible exact True.intro))
 (refine at_g 200 ?_;(refine zW ?_;try with_reducible exact True.intro);refine callG_of [2,3,0] (ContainsQ_spec out inn inn) zU ?_;((try refine zW ?_);(try with_reducible exact True.intro)))
 rfl
end Go.Proofs.GY
