/- Facts that the proofs of this claim lean on. -/
import Derived.Test.YtnbhjoopcaaafaaGreatHCq
import Derived.Test.YtnbhjoopcaaafaaGreatIdFm
set_option linter.unusedSimpArgs false
set_option linter.unusedVariables false
/- Lists of numbers of their own, all of them held. -/
namespace Go.Proofs.HO
open Go Go.Idl Go.Proofs
set_option maxHeartbeats 20000000
set_option maxRecDepth 100000
theorem listsF_blk (l:List (List Int)) (hl: ∀x∈l,x.length≤1000000) (hn:l.length≤1000000) {c:Nat} (hc:c=1+l.length):
  PG Tryz.prog 120 [sci .i64 l.length, .clo (.func 121) [] [.ptr 0 0 0 0]] [cL l] c (.ref 1 l.length 0 l.length)
   ((1, .arr 1 l.length (refsR 2 (freshF l)))::(enumB 2 (famB 1 eI (freshF l))++ [(0,cL [])])):=by
 refine pg_of 200 (fn:=Tryz.f120) Tryz.func120 rfl (by simp [Tryz.ntmps120]) 1 rfl ?_ ?_ ?_ ?_ ?_ fun hs=>?_
 ·((try refine zW ?_);(try with_reducible exact True.intro))
 ·((try refine zW ?_);(try with_reducible exact True.intro))
 ·refine⟨by show 1 < _;omega,?_,allLow_app.2 ⟨allLow_fam (by rw [freshF_len];omega),?_⟩⟩
  ·((try refine zW ?_);(try with_reducible exact True.intro))
   exact rowsBel_refsR (by rw [freshF_len];omega)
  ·((try refine zW ?_);(try with_reducible exact True.intro))
   omega
 ·refine hasAll_of fun i h1 h2=>?_
  rcases Nat.lt_or_ge i 2 with h | h
  ·obtain rfl:i=1:=by omega
   rfl
  ·obtain⟨j,rfl⟩: ∃j,i=2+j:=⟨i - 2,by omega⟩
   show(if 1=2+j then _ else Idl.look _ _:Option IBlk).isSome=true
   rw [if_neg (by omega),look_fam (by rw [freshF_len];omega)];rfl
 ·((try refine zW ?_);(try with_reducible exact True.intro));omega
 ((try refine zW ?_);(try with_reducible exact True.intro))
 refine walk_own 5 1 trivial rfl (.inr rfl) ?_
 (refine walk_trim [1,5,6,7] trivial zL ?_;((try refine zW ?_);(try with_reducible exact True.intro)))
 refine walk_floop 200 200 (fun i:Nat=>i≤l.length)
  (fun i=>⟨16, [(1, .clo (.func 121) [] [.ptr 0 0 0 0]),(5, .ref 1 i 0 i),(6,sci .i64 l.length),(7,sci .i64 i)], [],2+i,
   (1, .arr 1 i (refsR 2 (freshF (l.take i))))::(enumB 2 (famB 1 eI (freshF (l.take i)))++ [(0,cL (l.drop i))])⟩) (fun i=>l.length - i) 0 [] ?_ ?_ ?_
 ·simp
 ·constructor<;>(try simp (disch:=omega) only [go_sem,simprocAttr,zD,zE,Int.natCast_zero,List.take_zero,freshF,List.map_nil,refsR,famB,enumB,List.nil_append,List.drop_zero])
 ·intro i h1
  have htl:(freshF (l.take i)).length=i:=by rw [freshF_len,List.length_take];omega
  have hrl:(refsR 2 (freshF (l.take i))).length=i:=by rw [refsR_len,htl]
  have hrt:(refsR 2 (freshF (l.take i))).take i=refsR 2 (freshF (l.take i)):=List.take_of_length_le (by omega)
  ((try refine zW ?_);(try with_reducible exact True.intro))
  by_cases hl':i < l.length
  ·have e:l.drop i=l[i]::l.drop (i+1):=List.drop_eq_getElem_cons hl'
   have e2:freshF (l.take (i+1))=freshF (l.take i)++ [(0,l[i])]:=by rw [List.take_succ_eq_append_getElem hl',freshF_snoc]
   (try simp (disch:=omega) only [go_sem,simprocAttr,zD,zE,e])
   (refine at_g 200 ?_;(refine zW ?_;try with_reducible exact True.intro);refine callG_of [0] (own1L_blk l[i] (l.drop (i+1)) (hl _ (List.getElem_mem hl')) (by rw [List.length_drop];omega)) (by simp (disch:=omega) only [go_sem,simprocAttr,zD,zE,look_famo,htl]) ?_;((try refine zW ?_);(try with_reducible exact True.intro)))
   (try simp (disch:=omega) only [go_sem,simprocAttr,zD,zE,look_famo,htl,hrl,hrt])
   have e3:refsR 2 (freshF (l.take (i+1)))=refsR 2 (freshF (l.take i))++ [[.ref (2+i) 0 0 l[i].length]]:=by rw [e2,refsR_snoc,htl]
   have hfl:(famB 1 eI (freshF (l.take (i+1)))).length=i+1:=by rw [famB_len,e2,List.length_append,htl];rfl
   refine⟨i+1, [],hl',by omega,?_⟩
   rw [e3]
   constructor
   case blks=>
    (try simp (disch:=omega) only [go_sem,simprocAttr,zD,zE,look_famo,htl])
    refine⟨⟨by omega,rowsBel_refsR (by rw [htl];omega)⟩,?_⟩
    refine fblksIn_fam (fun j hj=>?_) (.inr ⟨?_,allBel_fam⟩) ?_
    ·rw [hfl] at hj
     have hg:(famB 1 eI (freshF (l.take (i+1))))[j]'(by rw [hfl];exact hj)= .arr 1 0 (ir eI l[j]):=by
      simp [famB,freshF]
     rw [hg]
     refine⟨_,?_,fwB_self _⟩
     by_cases hji:j=i
     ·subst hji
      ((try refine zO ?_);(try with_reducible exact True.intro))
     ·have hj2:j < (freshF (l.take i)).length:=by omega
      have hx:(freshF (l.take i))[j]=(0,l[j]):=by simp [freshF]
      ((try refine zO ?_);(try with_reducible exact True.intro))
      rw [look_fam hj2,hx]
    ·rw [hfl];show 2+(i+1)≤2+(i+1);exact Nat.le_refl _
    ·(try simp (disch:=omega) only [go_sem,simprocAttr,zD,zE,look_famo,htl])
     omega
   case others=>
    ((try refine zO ?_);(try with_reducible exact True.intro))
    refine⟨.inl (by omega), .inl (by omega),⟨_,List.mem_append_right _ (List.mem_singleton.2 rfl)⟩,oldIn_fam (.inl (by decide)) ⟨.inr ⟨_,List.mem_cons_of_mem _ (List.mem_append_right _ (List.mem_singleton.2 rfl))⟩,trivial⟩⟩
   all_goals(((try refine zO ?_);(try with_reducible exact True.intro));try omega)
  ·obtain rfl:i=l.length:=by omega
   have e:l.drop l.length= []:=List.drop_length
   have e2:l.take l.length=l:=List.take_length
   rw [e,e2]
   rw [e2] at htl hrl hrt
   ((try refine zO ?_);(try with_reducible exact True.intro))
   refine EndG_same (.inr rfl) (by omega) (by((try refine zO ?_);(try with_reducible exact True.intro))) (by((try refine zO ?_);(try with_reducible exact True.intro));omega) ⟨by show 1 < _;omega,?_,allLow_app.2 ⟨allLow_fam (by rw [htl];omega),?_⟩⟩ ?_ ?_
   ·((try refine zW ?_);(try with_reducible exact True.intro))
    exact rowsBel_refsR (by rw [htl];omega)
   ·((try refine zW ?_);(try with_reducible exact True.intro))
    omega
   ·refine⟨by((try refine zO ?_);(try with_reducible exact True.intro)),allSeen_app.2 ⟨allSeen_enum fun i hi=>?_,?_⟩⟩
    ·(try simp (disch:=omega) only [go_sem,simprocAttr,zD,zE,look_fam_in])
    ·(try simp (disch:=omega) only [go_sem,simprocAttr,zD,zE,look_famo,htl])
   ·(try simp (disch:=omega) only [go_sem,simprocAttr,zD,zE,List.map_append])
    refine allIn_fam (by decide) ?_
    (try simp (disch:=omega) only [go_sem,simprocAttr,zD,zE,List.mem_append])
theorem ownF_has (l:List (List Int)) {c:Nat} (hc:c=1+l.length) {g n:Nat}:hasAll ((0,IBlk.arr 1 g (refsR n (freshF l)))::enumB 1 (famB 1 eI (freshF l))) 0 c:=by
 refine hasAll_of fun i h1 h2=>?_
 rcases Nat.lt_or_ge i 1 with h | h
 ·obtain rfl:i=0:=by omega
  rfl
 ·obtain⟨j,rfl⟩: ∃j,i=1+j:=⟨i - 1,by omega⟩
  show(if 0=1+j then _ else Idl.look _ _:Option IBlk).isSome=true
  rw [if_neg (by omega)]
  have:=look_fam (sz:=1) (e:=eI) (k:=1) (r:= []) (xs:=freshF l) (i:=j) (by rw [freshF_len];omega)
  rw [List.append_nil] at this
  rw [this];rfl
theorem ownF_low (l:List (List Int)) {c n g:Nat} (hc:c=1+l.length) (hn:0+c=n):allLow n ((0,IBlk.arr 1 g (refsR 1 (freshF l)))::enumB 1 (famB 1 eI (freshF l))):=
 ⟨by show 0 < _;omega,by rw [blkBel_arr];exact rowsBel_refsR (by rw [freshF_len];omega),allLow_fam (by rw [freshF_len];omega)⟩
theorem ownF_blk (l:List (List Int)) (hl: ∀x∈l,x.length≤1000000) (hn:l.length≤1000000) {c:Nat} (hc:c=1+l.length):
  PG Tryz.prog 100 [lLs l] [] c (.ref 0 l.length 0 l.length) ((0, .arr 1 l.length (refsR 1 (freshF l)))::enumB 1 (famB 1 eI (freshF l))):=by
 refine pg_of 200 (fn:=Tryz.f100) Tryz.func100 rfl (by simp [Tryz.ntmps100]) 0 rfl (by((try refine zW ?_);(try with_reducible exact True.intro))) (by((try refine zW ?_);(try with_reducible exact True.intro))) (ownF_low l hc rfl) (ownF_has l hc) (by((try refine zW ?_);(try with_reducible exact True.intro));omega) fun hs=>?_
 ((try refine zW ?_);(try with_reducible exact True.intro))
 (refine at_g 200 ?_;(refine zW ?_;try with_reducible exact True.intro);refine callG_of [0] (listsF_blk l hl hn hc) (by simp (disch:=omega) only [go_sem,simprocAttr,zD,zE,freshF_len]) ?_;((try refine zW ?_);(try with_reducible exact True.intro)))
 refine EndG_shift 1 (.inr rfl) (Nat.zero_le _) (by((try refine zW ?_);(try with_reducible exact True.intro))) (by((try refine zW ?_);(try with_reducible exact True.intro));omega) (ownF_low l hc rfl) ?_ ?_
 ·((try refine zO ?_);(try with_reducible exact True.intro))
  refine allSeen_famc fun i hi=>?_
  (try simp (disch:=omega) only [go_sem,simprocAttr,zD,zE,look_fam])
 ·((try refine zW ?_);(try with_reducible exact True.intro))
end Go.Proofs.HO
/- A host with lists of its own, each row that it sent held. -/
namespace Go.Proofs.HO
open Go Go.Idl Go.Proofs
set_option maxHeartbeats 20000000
set_option maxRecDepth 100000
theorem fam_ne {k b0 c:Nat} {L:List IBlk} {x:IBlk} (hk:c < k) (hb: ¬b0=c): ∀b∈List.map (fun x:Nat × IBlk=>x.fst) ((enumB k L).reverse++ [(b0,x)]),¬b=c:=by
 intro b h
 simp only [List.map_append,List.map_reverse,List.mem_append,List.mem_reverse,List.map_cons,List.map_nil,List.mem_singleton] at h
 rcases h with h | rfl
 ·obtain⟨p,hp,rfl⟩:=List.mem_map.1 h
  obtain⟨i,_,e,_⟩:=enumB_mem hp
  omega
 ·exact hb
theorem OwnF_blk (p:Hs) (h:gHs p) {c:Nat} (hc:c=1+p.out.length):PG Tryz.prog 77 [toldHs p] [] c
  (.agg [sci .i64 p.node,sci .i64 p.state,sci .i64 p.steps,nil0,lMs p.inn, .ref 0 p.out.length 0 p.out.length])
  ((0, .arr 1 p.out.length (refsR 1 (freshF p.out)))::enumB 1 (famB 1 eI (freshF p.out))):=by
 obtain⟨h2,h3,h4,h5⟩:=h
 refine pg_of 200 (fn:=Tryz.f77) Tryz.func77 rfl (by simp [Tryz.ntmps77]) 0 rfl (by((try refine zW ?_);(try with_reducible exact True.intro))) (by((try refine zW ?_);(try with_reducible exact True.intro))) (ownF_low _ hc rfl) (ownF_has _ hc) (by((try refine zW ?_);(try with_reducible exact True.intro));omega) fun hs=>?_
 ((try refine zW ?_);(try with_reducible exact True.intro))
 (refine walk_trim [1,2,71] trivial zL ?_;(refine zW ?_;try with_reducible exact True.intro);refine irun_walk (id:=1) (n:=200) [none,none,none,none,none,none,none,none,some [0,1,2,3,4,5,9,10,12,13],none,none,some [0,1,2,3,4,5,12,13],none,none,some [0,1,2,3,4,5],none,some []] mixed (by kernel_rfl) ?_)
 ((try refine zW ?_);(try with_reducible exact True.intro))
 (refine at_dcall0 ?_;(refine zW ?_;try with_reducible exact True.intro);refine callA_of (CloneI0_spec) zB ?_;((try refine zW ?_);(try with_reducible exact True.intro)))
 ((try refine zW ?_);(try with_reducible exact True.intro))
 (refine at_dcall ?_;(refine zW ?_;try with_reducible exact True.intro);refine callA_of (ownM_spec _ h4 h2) zB ?_;((try refine zW ?_);(try with_reducible exact True.intro)))
 ((try refine zW ?_);(try with_reducible exact True.intro))
 (refine at_dg ?_;(refine zW ?_;try with_reducible exact True.intro);refine callG_of [] (ownF_blk p.out h5 h3 hc) zU ?_;((try refine zW ?_);(try with_reducible exact True.intro)))
 (try simp (maxSteps:=2000000) (disch:=omega) only [go_sem,simprocAttr,zD,zE,look_famo])
 refine⟨?_,?_⟩
 ·have hw: ∀b∈List.map (fun x:Nat × IBlk=>x.fst) ((enumB 3 (famB 1 eI (freshF p.out))).reverse++ [(2,IBlk.arr 1 p.out.length (refsR 3 (freshF p.out)))]),¬b=0:=fam_ne (by decide) (by decide)
  generalize List.map (fun x:Nat × IBlk=>x.fst) ((enumB 3 (famB 1 eI (freshF p.out))).reverse++ [(2,IBlk.arr 1 p.out.length (refsR 3 (freshF p.out)))])=w at hw ⊢
  cases w with
  | nil=>trivial
  | cons b w=>exact⟨hw b (by simp),fun a ha=>hw a (by simp [ha])⟩
 ·refine EndG_shift 2 (.inr rfl) (Nat.zero_le _) (by((try refine zW ?_);(try with_reducible exact True.intro))) (by((try refine zW ?_);(try with_reducible exact True.intro));omega) (ownF_low _ hc rfl) ?_ ?_
  ·((try refine zO ?_);(try with_reducible exact True.intro))
   refine allSeen_famc fun i hi=>?_
   (try simp (maxSteps:=2000000) (disch:=omega) only [go_sem,simprocAttr,zD,zE,look_fam])
  ·((try refine zW ?_);(try with_reducible exact True.intro))
theorem hownF_blk (h:Hs) (hg:gHs h) {c:Nat} (hc:c=1+h.out.length):PG Tryz.prog 62 [lHs h] [] c
  (.agg [sci .i64 h.node,sci .i64 h.state,sci .i64 h.steps,lMs h.inn, .ref 0 h.out.length 0 h.out.length])
  ((0, .arr 1 h.out.length (refsR 1 (freshF h.out)))::enumB 1 (famB 1 eI (freshF h.out))):=by
 refine pg_of 200 (fn:=Tryz.f62) Tryz.func62 rfl (by simp [Tryz.ntmps62]) 0 rfl (by((try refine zW ?_);(try with_reducible exact True.intro))) (by((try refine zW ?_);(try with_reducible exact True.intro))) (ownF_low _ hc rfl) (ownF_has _ hc) (by((try refine zW ?_);(try with_reducible exact True.intro));omega) fun hs=>?_
 ((try refine zW ?_);(try with_reducible exact True.intro))
 (refine at_call 200 ?_;(refine zW ?_;try with_reducible exact True.intro);refine callA_of (told_spec h) zB ?_;((try refine zW ?_);(try with_reducible exact True.intro)))
 ((try refine zW ?_);(try with_reducible exact True.intro))
 (refine at_gr 200 ?_;(refine zW ?_;try with_reducible exact True.intro);refine callG_of [] (OwnF_blk h hg hc) zU ?_;((try refine zW ?_);(try with_reducible exact True.intro)))
 (try simp (maxSteps:=2000000) (disch:=omega) only [go_sem,simprocAttr,zD,zE,look_famo])
 refine EndG_shift 2 (.inr rfl) (Nat.zero_le _) (by((try refine zW ?_);(try with_reducible exact True.intro))) (by((try refine zW ?_);(try with_reducible exact True.intro));omega) (ownF_low _ hc rfl) ?_ ?_
 ·(try simp (maxSteps:=2000000) (disch:=omega) only [go_sem,simprocAttr,zD,zE,look_famo])
  refine allSeen_famc fun i hi=>?_
  have hi':=hi
  rw [freshF_len] at hi'
  (try simp (maxSteps:=2000000) (disch:=omega) only [go_sem,simprocAttr,zD,zE,look_fam])
 ·((try refine zW ?_);(try with_reducible exact True.intro))
end Go.Proofs.HO
