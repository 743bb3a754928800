/- Lists of numbers of their own, all of them held. -/
import Derived.Test.YtnbhjoopcaaafaaGreatHCo
import Derived.Test.YtnbhjoopcaaafaaGreatHCq
import Derived.Test.YtnbhjoopcaaafaaGreatIdFm
set_option linter.unusedSimpArgs false
set_option linter.unusedVariables false
namespace Go.Proofs.HO
open Go Go.Idl Go.Proofs
set_option maxHeartbeats 20000000
set_option maxRecDepth 100000
theorem listsMF_blk (l:List (List (Int × Int))) (hl: ∀x∈l,x.length≤1000000) (hn:l.length≤1000000) {c:Nat} (hc:c=1+l.length):
  PG Tryz.prog 117 [sci .i64 l.length, .clo (.func 118) [] [.ptr 0 0 0 0]] [cM l] c (.ref 1 l.length 0 l.length)
   ((1, .arr 1 l.length (refsR 2 (freshF l)))::(enumB 2 (famB 2 eII (freshF l))++ [(0,cM [])])):=by
 refine pg_of 200 (fn:=Tryz.f117) Tryz.func117 rfl (by simp [Tryz.ntmps117]) 1 rfl ?_ ?_ ?_ ?_ ?_ fun hs=>?_
 ·((try refine zW ?_);(try with_reducible exact True.intro))
 ·((try refine zW ?_);(try with_reducible exact True.intro))
 ·refine⟨by show 1 < _;omega,?_,allLow_app.2 ⟨allLow_fam (by rw [freshF_len];omega),?_⟩⟩
  ·((try refine zW ?_);(try with_reducible exact True.intro))
   exact rowsBel_refsR (by rw [freshF_len];omega)
  ·((try refine zW ?_);(try with_reducible exact True.intro))
   omega
 ·refine hasAll_of fun i h1 h2=>?_
  rcases Nat.lt_or_ge i 2 with h | h
  ·obtain rfl:i=1:=by omega
   rfl
  ·obtain⟨j,rfl⟩: ∃j,i=2+j:=⟨i - 2,by omega⟩
   show(if 1=2+j then _ else Idl.look _ _:Option IBlk).isSome=true
   rw [if_neg (by omega),look_fam (by rw [freshF_len];omega)];rfl
 ·((try refine zW ?_);(try with_reducible exact True.intro));omega
 ((try refine zW ?_);(try with_reducible exact True.intro))
 refine walk_own 5 1 trivial rfl (.inr rfl) ?_
 (refine walk_trim [1,5,6,7] trivial zL ?_;((try refine zW ?_);(try with_reducible exact True.intro)))
 refine walk_floop 200 200 (fun i:Nat=>i≤l.length)
  (fun i=>⟨16, [(1, .clo (.func 118) [] [.ptr 0 0 0 0]),(5, .ref 1 i 0 i),(6,sci .i64 l.length),(7,sci .i64 i)], [],2+i,
   (1, .arr 1 i (refsR 2 (freshF (l.take i))))::(enumB 2 (famB 2 eII (freshF (l.take i)))++ [(0,cM (l.drop i))])⟩) (fun i=>l.length - i) 0 [] ?_ ?_ ?_
 ·simp
 ·constructor<;>(try simp (disch:=omega) only [go_sem,simprocAttr,zD,zE,Int.natCast_zero,List.take_zero,freshF,List.map_nil,refsR,famB,enumB,List.nil_append,List.drop_zero])
 ·intro i h1
  have htl:(freshF (l.take i)).length=i:=by rw [freshF_len,List.length_take];omega
  have hrl:(refsR 2 (freshF (l.take i))).length=i:=by rw [refsR_len,htl]
  have hrt:(refsR 2 (freshF (l.take i))).take i=refsR 2 (freshF (l.take i)):=List.take_of_length_le (by omega)
  ((try refine zW ?_);(try with_reducible exact True.intro))
  by_cases hl':i < l.length
  ·have e:l.drop i=l[i]::l.drop (i+1):=List.drop_eq_getElem_cons hl'
   have e2:freshF (l.take (i+1))=freshF (l.take i)++ [(0,l[i])]:=by rw [List.take_succ_eq_append_getElem hl',freshF_snoc]
   (try simp (disch:=omega) only [go_sem,simprocAttr,zD,zE,e])
   (refine at_g 200 ?_;(refine zW ?_;try with_reducible exact True.intro);refine callG_of [0] (own1M_blk l[i] (l.drop (i+1)) (hl _ (List.getElem_mem hl')) (by rw [List.length_drop];omega)) (by simp (disch:=omega) only [go_sem,simprocAttr,zD,zE,look_famo,htl]) ?_;((try refine zW ?_);(try with_reducible exact True.intro)))
   (try simp (disch:=omega) only [go_sem,simprocAttr,zD,zE,look_famo,htl,hrl,hrt])
   have e3:refsR 2 (freshF (l.take (i+1)))=refsR 2 (freshF (l.take i))++ [[.ref (2+i) 0 0 l[i].length]]:=by rw [e2,refsR_snoc,htl]
   have hfl:(famB 2 eII (freshF (l.take (i+1)))).length=i+1:=by rw [famB_len,e2,List.length_append,htl];rfl
   refine⟨i+1, [],hl',by omega,?_⟩
   rw [e3]
   constructor
   case blks=>
    (try simp (disch:=omega) only [go_sem,simprocAttr,zD,zE,look_famo,htl])
    refine⟨⟨by omega,rowsBel_refsR (by rw [htl];omega)⟩,?_⟩
    refine fblksIn_fam (fun j hj=>?_) (.inr ⟨?_,allBel_fam⟩) ?_
    ·rw [hfl] at hj
     have hg:(famB 2 eII (freshF (l.take (i+1))))[j]'(by rw [hfl];exact hj)= .arr 2 0 (ir eII l[j]):=by
      simp [famB,freshF]
     rw [hg]
     refine⟨_,?_,fwB_self _⟩
     by_cases hji:j=i
     ·subst hji
      ((try refine zO ?_);(try with_reducible exact True.intro))
     ·have hj2:j < (freshF (l.take i)).length:=by omega
      have hx:(freshF (l.take i))[j]=(0,l[j]):=by simp [freshF]
      ((try refine zO ?_);(try with_reducible exact True.intro))
      rw [look_fam hj2,hx]
    ·rw [hfl];show 2+(i+1)≤2+(i+1);exact Nat.le_refl _
    ·(try simp (disch:=omega) only [go_sem,simprocAttr,zD,zE,look_famo,htl])
     omega
   case others=>
    ((try refine zO ?_);(try with_reducible exact True.intro))
    refine⟨.inl (by omega), .inl (by omega),⟨_,List.mem_append_right _ (List.mem_singleton.2 rfl)⟩,oldIn_fam (.inl (by decide)) ⟨.inr ⟨_,List.mem_cons_of_mem _ (List.mem_append_right _ (List.mem_singleton.2 rfl))⟩,trivial⟩⟩
   all_goals(((try refine zO ?_);(try with_reducible exact True.intro));try omega)
  ·obtain rfl:i=l.length:=by omega
   have e:l.drop l.length= []:=List.drop_length
   have e2:l.take l.length=l:=List.take_length
   rw [e,e2]
   rw [e2] at htl hrl hrt
   ((try refine zO ?_);(try with_reducible exact True.intro))
   refine EndG_same (.inr rfl) (by omega) (by((try refine zO ?_);(try with_reducible exact True.intro))) (by((try refine zO ?_);(try with_reducible exact True.intro));omega) ⟨by show 1 < _;omega,?_,allLow_app.2 ⟨allLow_fam (by rw [htl];omega),?_⟩⟩ ?_ ?_
   ·((try refine zW ?_);(try with_reducible exact True.intro))
    exact rowsBel_refsR (by rw [htl];omega)
   ·((try refine zW ?_);(try with_reducible exact True.intro))
    omega
   ·refine⟨by((try refine zO ?_);(try with_reducible exact True.intro)),allSeen_app.2 ⟨allSeen_enum fun i hi=>?_,?_⟩⟩
    ·(try simp (disch:=omega) only [go_sem,simprocAttr,zD,zE,look_fam_in])
    ·(try simp (disch:=omega) only [go_sem,simprocAttr,zD,zE,look_famo,htl])
   ·(try simp (disch:=omega) only [go_sem,simprocAttr,zD,zE,List.map_append])
    refine allIn_fam (by decide) ?_
    (try simp (disch:=omega) only [go_sem,simprocAttr,zD,zE,List.mem_append])
theorem ownMF_has (l:List (List (Int × Int))) {c:Nat} (hc:c=1+l.length) {g n:Nat}:hasAll ((0,IBlk.arr 1 g (refsR n (freshF l)))::enumB 1 (famB 2 eII (freshF l))) 0 c:=by
 refine hasAll_of fun i h1 h2=>?_
 rcases Nat.lt_or_ge i 1 with h | h
 ·obtain rfl:i=0:=by omega
  rfl
 ·obtain⟨j,rfl⟩: ∃j,i=1+j:=⟨i - 1,by omega⟩
  show(if 0=1+j then _ else Idl.look _ _:Option IBlk).isSome=true
  rw [if_neg (by omega)]
  have:=look_fam (sz:=2) (e:=eII) (k:=1) (r:= []) (xs:=freshF l) (i:=j) (by rw [freshF_len];omega)
  rw [List.append_nil] at this
  rw [this];rfl
theorem ownMF_low (l:List (List (Int × Int))) {c n g:Nat} (hc:c=1+l.length) (hn:0+c=n):allLow n ((0,IBlk.arr 1 g (refsR 1 (freshF l)))::enumB 1 (famB 2 eII (freshF l))):=
 ⟨by show 0 < _;omega,by rw [blkBel_arr];exact rowsBel_refsR (by rw [freshF_len];omega),allLow_fam (by rw [freshF_len];omega)⟩
theorem ownMF_blk (l:List (List (Int × Int))) (hl: ∀x∈l,x.length≤1000000) (hn:l.length≤1000000) {c:Nat} (hc:c=1+l.length):
  PG Tryz.prog 99 [lMs l] [] c (.ref 0 l.length 0 l.length) ((0, .arr 1 l.length (refsR 1 (freshF l)))::enumB 1 (famB 2 eII (freshF l))):=by
 refine pg_of 200 (fn:=Tryz.f99) Tryz.func99 rfl (by simp [Tryz.ntmps99]) 0 rfl (by((try refine zW ?_);(try with_reducible exact True.intro))) (by((try refine zW ?_);(try with_reducible exact True.intro))) (ownMF_low l hc rfl) (ownMF_has l hc) (by((try refine zW ?_);(try with_reducible exact True.intro));omega) fun hs=>?_
 ((try refine zW ?_);(try with_reducible exact True.intro))
 (refine at_g 200 ?_;(refine zW ?_;try with_reducible exact True.intro);refine callG_of [0] (listsMF_blk l hl hn hc) (by simp (disch:=omega) only [go_sem,simprocAttr,zD,zE,freshF_len]) ?_;((try refine zW ?_);(try with_reducible exact True.intro)))
 refine EndG_shift 1 (.inr rfl) (Nat.zero_le _) (by((try refine zW ?_);(try with_reducible exact True.intro))) (by((try refine zW ?_);(try with_reducible exact True.intro));omega) (ownMF_low l hc rfl) ?_ ?_
 ·((try refine zO ?_);(try with_reducible exact True.intro))
  refine allSeen_famc fun i hi=>?_
  (try simp (disch:=omega) only [go_sem,simprocAttr,zD,zE,look_fam])
 ·((try refine zW ?_);(try with_reducible exact True.intro))
end Go.Proofs.HO
