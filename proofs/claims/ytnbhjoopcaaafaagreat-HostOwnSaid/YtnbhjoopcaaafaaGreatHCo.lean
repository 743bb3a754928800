/- Facts that the proofs of this claim lean on. -/
import Derived.Test.YtnbhjoopcaaafaaGreatHP2
set_option linter.unusedSimpArgs false
set_option linter.unusedVariables false
/- Clone with its block. -/
namespace Go.Proofs.HO
open Go Go.Idl Go.Proofs
set_option maxHeartbeats 20000000
set_option maxRecDepth 100000
theorem CloneM_new (a:Int × Int) (r:List (Int × Int)) (hn:r.length≤1000000):PG Tryz.prog 119 [lII (a::r)] [] 1 (.ref 0 0 0 (r.length+1)) [(0, .arr 2 0 (ir eII (a::r)))]:=by
 have e:pr eII (a::r)=eII a::pr eII r:=rfl
 refine pg_of 200 (fn:=Tryz.f119) Tryz.func119 rfl (by simp [Tryz.ntmps119]) 0 rfl zC zC zC zC zC fun hs=>?_
 ((try refine zW ?_);(try with_reducible exact True.intro))
 (try simp (disch:=omega) only [go_sem,simprocAttr,zD,zE,e])
 refine⟨[0],⟨rfl,by simp [geAll],by simp [apartN,apartN.nin]⟩,rfl,?_⟩
 exact⟨rfl,rfl,fzRs_refl _⟩
theorem CloneM_new0:PG Tryz.prog 119 [lII []] [] 1 (.ref 0 0 0 0) [(0, .arr 2 0 [])]:=by
 refine pg_of 200 (fn:=Tryz.f119) Tryz.func119 rfl (by simp [Tryz.ntmps119]) 0 rfl zC zC zC zC zC fun hs=>?_
 (try simp only [go_sem,simprocAttr,pr,List.map_nil])
 refine irun_eqnil (sz:=2) (rows:= []) rfl (by kernel_rfl) (by decide) fun b hb=>?_
 cases b
 ·refine vc_sound _ 200 _ _ ?_
  ((try refine zW ?_);(try with_reducible exact True.intro))
  refine⟨[0],⟨rfl,by simp [geAll],by simp [apartN,apartN.nin]⟩,rfl,?_⟩
  exact⟨rfl,rfl,fzRs_refl _⟩
 ·refine vc_sound _ 6 _ _ ?_
  ((try refine zW ?_);(try with_reducible exact True.intro))
  refine walk_own 2 2 trivial rfl (.inr rfl) ?_
  refine vc_sound _ 200 _ _ ?_
  ((try refine zW ?_);(try with_reducible exact True.intro))
  refine⟨[0],⟨rfl,by simp [geAll],by simp [apartN,apartN.nin]⟩,rfl,?_⟩
  exact⟨rfl,rfl,fzRs_refl _⟩
theorem CloneM_blk (l:List (Int × Int)) (hn:l.length≤1000000):PG Tryz.prog 119 [lII l] [] 1 (.ref 0 0 0 l.length) [(0, .arr 2 0 (ir eII l))]:=by
 cases l with
 | nil=>exact CloneM_new0
 | cons a r=>exact CloneM_new a r (by rw [List.length_cons] at hn;omega)
theorem own1M_blk (x:List (Int × Int)) (r:List (List (Int × Int))) (hx:x.length≤1000000) (hr:r.length≤1000000):
  PG Tryz.prog 118 [.ptr 0 0 0 0] [cM (x::r)] 1 (.ref 1 0 0 x.length) [(1, .arr 2 0 (ir eII x)),(0,cM r)]:=by
 refine pg_of 200 (fn:=Tryz.f118) Tryz.func118 rfl (by simp [Tryz.ntmps118]) 1 rfl zC zC zC zC zC fun hs=>?_
 ((try refine zW ?_);(try with_reducible exact True.intro))
 (try simp (disch:=omega) only [go_sem,simprocAttr,zD,zE,eMs])
 (refine at_g 200 ?_;(refine zW ?_;try with_reducible exact True.intro);refine callG_of [] (CloneM_blk x hx) zU ?_;((try refine zW ?_);(try with_reducible exact True.intro)))
 (try simp (disch:=omega) only [go_sem,simprocAttr,zD,zE,eMs,Nat.add_sub_cancel,List.take_length])
 exact⟨[1],⟨rfl,by simp [geAll],by simp [apartN,apartN.nin]⟩,rfl,rfl,rfl,fzRs_refl _⟩
end Go.Proofs.HO
/- Lists of their own, one of which is held. -/
namespace Go.Proofs.HO
open Go Go.Idl Go.Proofs
set_option maxHeartbeats 20000000
set_option maxRecDepth 100000
def rowsAt (l:List (List (Int × Int))) (i0 b n:Nat) (i:Nat):List (List IV):=ir eMs (l.take i0)++ [.ref b 0 0 n]::ir eMs ((l.take i).drop (i0+1))
@[go_sem] theorem rowsBel_rowsAt {l:List (List (Int × Int))} {i0 b k i n:Nat}:rowsBel n (rowsAt l i0 b k i)=(b < n):=by
  unfold rowsAt
  rw [rowsBel_app,rowsBel_ir]
  simp [rowsBel,rowsBel_ir,bels,bel]
theorem rowsAt_len {l:List (List (Int × Int))} {i0 b k i:Nat} (h:i0 < i) (hi:i≤l.length):(rowsAt l i0 b k i).length=i:=by
 unfold rowsAt ir
 simp only [List.length_append,List.length_cons,List.length_map,List.length_take,List.length_drop]
 omega
theorem rowsAt_succ {l:List (List (Int × Int))} {i0 b k i:Nat} (h:i0 < i) (hi:i < l.length):rowsAt l i0 b k (i+1)=rowsAt l i0 b k i++ [(eMs l[i]).map .p]:=by
 unfold rowsAt
 rw [List.take_succ_eq_append_getElem hi,List.drop_append_of_le_length (by rw [List.length_take];omega),ir_snoc,List.append_assoc,List.cons_append]
theorem rnRw_rowsAt {l:List (List (Int × Int))} {i0 k i:Nat}:rnRw (rsel 1 [1,2]) (rowsAt l i0 2 k i)=rowsAt l i0 2 k i:=by
 unfold rowsAt
 simp only [go_sem]
 rfl
theorem listsM_blk (l:List (List (Int × Int))) (i0:Nat) (h0:i0 < l.length) (hl: ∀x∈l,x.length≤1000000) (hn:l.length≤1000000):
  PG Tryz.prog 117 [sci .i64 l.length, .clo (.func 118) [] [.ptr 0 0 0 0]] [cM l] 2 (.ref 1 l.length 0 l.length)
   [(1, .arr 1 l.length (rowsAt l i0 2 l[i0].length l.length)),(2, .arr 2 0 (ir eII l[i0])),(0,cM [])]:=by
 refine pg_of 200 (fn:=Tryz.f117) Tryz.func117 rfl (by simp [Tryz.ntmps117]) 1 rfl zC zC zC zC zC fun hs=>?_
 ((try refine zW ?_);(try with_reducible exact True.intro))
 refine walk_own 5 1 trivial rfl (.inr rfl) ?_
 (refine walk_trim [1,5,6,7] trivial zL ?_;((try refine zW ?_);(try with_reducible exact True.intro)))
 refine walk_floop 200 200 (fun i:Nat × Bool=>i.1≤l.length∧(i.2=true↔i0 < i.1))
  (fun i=>match i.2 with
   | false=>⟨16, [(1, .clo (.func 118) [] [.ptr 0 0 0 0]),(5, .ref 1 i.1 0 i.1),(6,sci .i64 l.length),(7,sci .i64 i.1)], [],2, [(1, .arr 1 i.1 (ir eMs (l.take i.1))),(0,cM (l.drop i.1))]⟩
   | true=>⟨16, [(1, .clo (.func 118) [] [.ptr 0 0 0 0]),(5, .ref 1 i.1 0 i.1),(6,sci .i64 l.length),(7,sci .i64 i.1)], [],3, [(1, .arr 1 i.1 (rowsAt l i0 2 l[i0].length i.1)),(2, .arr 2 0 (ir eII l[i0])),(0,cM (l.drop i.1))]⟩) (fun i=>l.length - i.1) (0,false) [] ?_ ?_ ?_
 ·simp
 ·constructor<;>(try simp (disch:=omega) only [go_sem,simprocAttr,zD,zE,Int.natCast_zero,List.take_zero])
 ·rintro⟨i,ph⟩ ⟨h1,h3⟩
  simp only at h1 h3
  cases ph
  ·have hle:i≤i0:=by
    rcases Nat.lt_or_ge i0 i with q | q
    ·have:=h3.2 q;cases this
    ·exact q
   have hl':i < l.length:=by omega
   have htl:(l.take i).length=i:=by rw [List.length_take];omega
   have hmm:min i (min i l.length)=i:=by omega
   have e:l.drop i=l[i]::l.drop (i+1):=List.drop_eq_getElem_cons hl'
   ((try refine zW ?_);(try with_reducible exact True.intro))
   (try simp (disch:=omega) only [go_sem,simprocAttr,zD,zE,e])
   (refine at_g 200 ?_;(refine zW ?_;try with_reducible exact True.intro);refine callG_of [0] (own1M_blk l[i] (l.drop (i+1)) (hl _ (List.getElem_mem hl')) (by rw [List.length_drop];omega)) zU ?_;((try refine zW ?_);(try with_reducible exact True.intro)))
   (try simp (disch:=omega) only [go_sem,simprocAttr,zD,zE,eMs,htl])
   rcases Nat.lt_or_ge i i0 with hi | hi
   ·refine⟨(i+1,false), [2],⟨hl',⟨(fun q=>by cases q),(fun q=>by simp only at q;omega)⟩⟩,by simp only;omega,?_⟩
    have e2:l.take (i+1)=l.take i++ [l[i]]:=List.take_succ_eq_append_getElem hl'
    have e3:(l.take i).take i=l.take i:=by rw [List.take_take,Nat.min_self]
    constructor<;>(try simp (disch:=omega) only [go_sem,simprocAttr,zD,zE,e2,e3,eMs,htl,hmm,ir_snoc,List.map_cons,List.map_nil])
   ·obtain rfl:i=i0:=by omega
    refine⟨(i+1,true), [],⟨hl',by simp⟩,by simp only;omega,?_⟩
    have e2:rowsAt l i 2 l[i].length (i+1)=ir eMs (l.take i)++ [[.ref 2 0 0 l[i].length]]:=by
     unfold rowsAt
     rw [List.drop_eq_nil_of_le (by rw [List.length_take];omega)];rfl
    have e3:(l.take i).take i=l.take i:=by rw [List.take_take,Nat.min_self]
    constructor<;>(try simp (disch:=omega) only [go_sem,simprocAttr,zD,zE,e2,e3,htl,hmm])
  ·have hle:i0 < i:=h3.1 rfl
   have hrl:(rowsAt l i0 2 l[i0].length i).length=i:=rowsAt_len hle h1
   have hrt:(rowsAt l i0 2 l[i0].length i).take i=rowsAt l i0 2 l[i0].length i:=List.take_of_length_le (by omega)
   ((try refine zW ?_);(try with_reducible exact True.intro))
   by_cases hl':i < l.length
   ·have e:l.drop i=l[i]::l.drop (i+1):=List.drop_eq_getElem_cons hl'
    have e2:rowsAt l i0 2 l[i0].length (i+1)=rowsAt l i0 2 l[i0].length i++ [(eMs l[i]).map .p]:=rowsAt_succ hle hl'
    (try simp (disch:=omega) only [go_sem,simprocAttr,zD,zE,e])
    (refine at_g 200 ?_;(refine zW ?_;try with_reducible exact True.intro);refine callG_of [0] (own1M_blk l[i] (l.drop (i+1)) (hl _ (List.getElem_mem hl')) (by rw [List.length_drop];omega)) zU ?_;((try refine zW ?_);(try with_reducible exact True.intro)))
    (try simp (disch:=omega) only [go_sem,simprocAttr,zD,zE,eMs,hrl,hrt])
    refine⟨(i+1,true), [3],⟨hl',⟨fun _=>by simp only;omega,fun _=>rfl⟩⟩,by simp only;omega,?_⟩
    constructor<;>(try simp (disch:=omega) only [go_sem,simprocAttr,zD,zE,e2,hrt,hrl,eMs,List.map_cons,List.map_nil])
   ·obtain rfl:i=l.length:=by omega
    have e:l.drop l.length= []:=List.drop_length
    (try simp (disch:=omega) only [go_sem,simprocAttr,zD,zE,e,hrl,hrt])
    have er:rnRw (rsel 1 [1,2]) (rowsAt l i0 2 l[i0].length l.length)=rowsAt l i0 2 l[i0].length l.length:=rnRw_rowsAt
    refine⟨[1,2],⟨rfl,by simp [geAll],by simp [apartN,apartN.nin]⟩,rfl,?_⟩
    refine⟨⟨rfl,rfl,?_⟩,?_⟩
    ·rw [er];exact fzRs_refl _
    ·exact⟨rfl,rfl,fzRs_refl _⟩
end Go.Proofs.HO
/- piece.own with one row held. -/
namespace Go.Proofs.HO
open Go Go.Idl Go.Proofs
set_option maxHeartbeats 20000000
set_option maxRecDepth 100000
theorem rnRw_rowsAt1 {l:List (List (Int × Int))} {i0 k i:Nat}:rnRw (rsel 0 [1,2]) (rowsAt l i0 1 k i)=rowsAt l i0 2 k i:=by
 unfold rowsAt
 simp only [go_sem]
 rfl
theorem rnRw_rowsAt2 {l:List (List (Int × Int))} {i0 k i:Nat}:rnRw (ridx [0] 1) (rowsAt l i0 2 k i)=rowsAt l i0 2 k i:=by
 unfold rowsAt
 simp only [go_sem]
theorem ownM_blk (l:List (List (Int × Int))) (i0:Nat) (h0:i0 < l.length) (hl: ∀x∈l,x.length≤1000000) (hn:l.length≤1000000):
  PG Tryz.prog 99 [lMs l] [] 2 (.ref 0 l.length 0 l.length)
   [(0, .arr 1 l.length (rowsAt l i0 1 l[i0].length l.length)),(1, .arr 2 0 (ir eII l[i0]))]:=by
 refine pg_of 200 (fn:=Tryz.f99) Tryz.func99 rfl (by simp [Tryz.ntmps99]) 0 rfl zC zC zC zC zC fun hs=>?_
 ((try refine zW ?_);(try with_reducible exact True.intro))
 (refine at_g 200 ?_;(refine zW ?_;try with_reducible exact True.intro);refine callG_of [0] (listsM_blk l i0 h0 hl hn) zU ?_;((try refine zW ?_);(try with_reducible exact True.intro)))
 (try simp (disch:=omega) only [go_sem,simprocAttr,zD,zE,rnRw_rowsAt2])
 refine⟨[1,2],⟨rfl,by simp [geAll],by simp [apartN,apartN.nin]⟩,rfl,?_⟩
 refine⟨⟨rfl,rfl,?_⟩,?_⟩
 ·rw [rnRw_rowsAt1];exact fzRs_refl _
 ·exact⟨rfl,rfl,fzRs_refl _⟩
end Go.Proofs.HO
