/- A host with lists of its own, each row held, of what it took and of what it sent. -/
import Derived.Test.YtnbhjoopcaaafaaGreatHMa
import Derived.Test.YtnbhjoopcaaafaaGreatHFb
set_option linter.unusedSimpArgs false
set_option linter.unusedVariables false
namespace Go.Proofs.HO
open Go Go.Idl Go.Proofs
set_option maxHeartbeats 20000000
set_option maxRecDepth 100000
abbrev ffW (k:Nat) (inn:List (List (Int × Int))) (out:List (List Int)):List (Nat × IBlk):=
 (k, .arr 1 inn.length (refsR (k+1) (freshF inn)))::(enumB (k+1) (famB 2 eII (freshF inn))++
  (k+1+inn.length, .arr 1 out.length (refsR (k+1+inn.length+1) (freshF out)))::enumB (k+1+inn.length+1) (famB 1 eI (freshF out)))
theorem ffW_low (inn:List (List (Int × Int))) (out:List (List Int)) {c n:Nat} (hc:c=2+inn.length+out.length) (hn:0+c=n):allLow n (ffW 0 inn out):=by
 refine⟨by show 0 < _;omega,by rw [blkBel_arr];exact rowsBel_refsR (by rw [freshF_len];omega),allLow_app.2 ⟨allLow_fam (by rw [freshF_len];omega),by show _ < _;omega,by rw [blkBel_arr];exact rowsBel_refsR (by rw [freshF_len];omega),allLow_fam (by rw [freshF_len];omega)⟩⟩
theorem ffW_has (inn:List (List (Int × Int))) (out:List (List Int)) {c:Nat} (hc:c=2+inn.length+out.length):hasAll (ffW 0 inn out) 0 c:=by
 refine hasAll_of fun i h1 h2=>?_
 rcases Nat.eq_zero_or_pos i with rfl | h
 ·rfl
 ·show(if 0=i then _ else Idl.look _ _:Option IBlk).isSome=true
  rw [if_neg (by omega)]
  rcases Nat.lt_or_ge i (1+inn.length) with h3 | h3
  ·obtain⟨j,rfl⟩: ∃j,i=0+1+j:=⟨i - 1,by omega⟩
   rw [look_fam (by rw [freshF_len];omega)];rfl
  ·rw [look_famo (by rw [freshF_len];omega)]
   show(if 0+1+inn.length=i then _ else Idl.look _ _:Option IBlk).isSome=true
   by_cases e:0+1+inn.length=i
   ·rw [if_pos e];rfl
   ·rw [if_neg e]
    obtain⟨j,rfl⟩: ∃j,i=0+1+inn.length+1+j:=⟨i - (inn.length+2),by omega⟩
    have:=look_fam (sz:=1) (e:=eI) (k:=0+1+inn.length+1) (r:= []) (xs:=freshF out) (i:=j) (by rw [freshF_len];omega)
    rw [List.append_nil] at this
    rw [this];rfl
theorem OwnFF_blk (p:Hs) (h:gHs p) {c:Nat} (hc:c=2+p.inn.length+p.out.length):PG Tryz.prog 77 [toldHs p] [] c
  (.agg [sci .i64 p.node,sci .i64 p.state,sci .i64 p.steps,nil0, .ref 0 p.inn.length 0 p.inn.length, .ref (1+p.inn.length) p.out.length 0 p.out.length]) (ffW 0 p.inn p.out):=by
 obtain⟨h2,h3,h4,h5⟩:=h
 refine pg_of 200 (fn:=Tryz.f77) Tryz.func77 rfl (by simp [Tryz.ntmps77]) 0 rfl (by((try refine zW ?_);(try with_reducible exact True.intro))) (by((try refine zW ?_);(try with_reducible exact True.intro))) (ffW_low _ _ hc rfl) (ffW_has _ _ hc) (by((try refine zW ?_);(try with_reducible exact True.intro));omega) fun hs=>?_
 ((try refine zW ?_);(try with_reducible exact True.intro))
 (refine walk_trim [1,2,71] trivial zL ?_;(refine zW ?_;try with_reducible exact True.intro);refine irun_walk (id:=1) (n:=200) [none,none,none,none,none,none,none,none,some [0,1,2,3,4,5,9,10,12,13],none,none,some [0,1,2,3,4,5,12,13],none,none,some [0,1,2,3,4,5],none,some []] mixed (by kernel_rfl) ?_)
 ((try refine zW ?_);(try with_reducible exact True.intro))
 (refine at_dcall0 ?_;(refine zW ?_;try with_reducible exact True.intro);refine callA_of (CloneI0_spec) zB ?_;((try refine zW ?_);(try with_reducible exact True.intro)))
 ((try refine zW ?_);(try with_reducible exact True.intro))
 (refine at_dg ?_;(refine zW ?_;try with_reducible exact True.intro);refine callG_of [] (ownMF_blk p.inn h4 h2 rfl) zU ?_;((try refine zW ?_);(try with_reducible exact True.intro)))
 (try simp (maxSteps:=2000000) (disch:=omega) only [go_sem,simprocAttr,zD,zE,look_famo,freshF_len])
 (refine at_dg ?_;(refine zW ?_;try with_reducible exact True.intro);refine callG_of [] (ownF_blk p.out h5 h3 rfl) zU ?_;((try refine zW ?_);(try with_reducible exact True.intro)))
 (try simp (maxSteps:=2000000) (disch:=omega) only [go_sem,simprocAttr,zD,zE,look_famo,freshF_len])
 refine⟨⟨?_,?_⟩,?_⟩
 ·have hw:=fam_ne (k:=3) (b0:=2) (c:=0) (L:=famB 2 eII (freshF p.inn)) (x:= .arr 1 p.inn.length (refsR 3 (freshF p.inn))) (by decide) (by decide)
  generalize List.map (fun x:Nat × IBlk=>x.fst) ((enumB 3 (famB 2 eII (freshF p.inn))).reverse++ [(2, .arr 1 p.inn.length (refsR 3 (freshF p.inn)))])=w at hw ⊢
  cases w with
  | nil=>trivial
  | cons b w=>exact⟨hw b (by simp),fun a ha=>hw a (by simp [ha])⟩
 ·have hw:=fam_ne (k:=2+(1+(p.inn.length+1))) (b0:=2+(1+p.inn.length)) (c:=0) (L:=famB 1 eI (freshF p.out)) (x:= .arr 1 p.out.length (refsR (2+(1+(p.inn.length+1))) (freshF p.out))) (by omega) (by omega)
  generalize List.map (fun x:Nat × IBlk=>x.fst) ((enumB (2+(1+(p.inn.length+1))) (famB 1 eI (freshF p.out))).reverse++ [(2+(1+p.inn.length), .arr 1 p.out.length (refsR (2+(1+(p.inn.length+1))) (freshF p.out)))])=w at hw ⊢
  cases w with
  | nil=>trivial
  | cons b w=>exact⟨hw b (by simp),fun a ha=>hw a (by simp [ha])⟩
 ·have e1:2+(1+p.inn.length)=3+p.inn.length:=by omega
  have e2:2+(1+(p.inn.length+1))=4+p.inn.length:=by omega
  have e3:1+(p.inn.length+2)=3+p.inn.length:=by omega
  have e4:1+(p.inn.length+3)=4+p.inn.length:=by omega
  rw [e1,e2]
  refine EndG_shift 2 (.inr rfl) (Nat.zero_le _) (by(try simp (maxSteps:=2000000) only [go_sem,simprocAttr,e3])) (by((try refine zW ?_);(try with_reducible exact True.intro));omega) (ffW_low _ _ hc rfl) ?_ ?_
  ·(try simp (maxSteps:=2000000) only [go_sem,simprocAttr,e3,e4])
   have f1: ¬1=3+p.inn.length:=by omega
   refine⟨?_,allSeen_app.2 ⟨allSeen_famc fun i hi=>?_,?_,allSeen_famc fun i hi=>?_⟩⟩
   ·have f2: ¬3+p.inn.length=2:=by omega
    (try simp (maxSteps:=2000000) (disch:=omega) only [go_sem,simprocAttr,zD,zE,look_famo,freshF_len,f2])
   ·have hi':=hi
    rw [freshF_len] at hi'
    have g1: ¬1=3+i:=by omega
    have g2: ¬3+p.inn.length=3+i:=by omega
    have g3: ¬2=3+i:=by omega
    (try simp (maxSteps:=2000000) (disch:=omega) only [go_sem,simprocAttr,zD,zE,look_famo,freshF_len,g1,g2,g3,look_fam hi])
   ·(try simp (maxSteps:=2000000) only [go_sem,simprocAttr,f1])
   ·have hi':=hi
    rw [freshF_len] at hi'
    have g1: ¬1=4+p.inn.length+i:=by omega
    have g2: ¬3+p.inn.length=4+p.inn.length+i:=by omega
    rw [look_cons,if_neg g1,look_cons,if_neg g2,look_fam hi]
  ·(try simp (maxSteps:=2000000) only [go_sem,simprocAttr,e3,e4])
theorem hownFF_blk (h:Hs) (hg:gHs h) {c:Nat} (hc:c=2+h.inn.length+h.out.length):PG Tryz.prog 62 [lHs h] [] c
  (.agg [sci .i64 h.node,sci .i64 h.state,sci .i64 h.steps, .ref 0 h.inn.length 0 h.inn.length, .ref (1+h.inn.length) h.out.length 0 h.out.length]) (ffW 0 h.inn h.out):=by
 refine pg_of 200 (fn:=Tryz.f62) Tryz.func62 rfl (by simp [Tryz.ntmps62]) 0 rfl (by((try refine zW ?_);(try with_reducible exact True.intro))) (by((try refine zW ?_);(try with_reducible exact True.intro))) (ffW_low _ _ hc rfl) (ffW_has _ _ hc) (by((try refine zW ?_);(try with_reducible exact True.intro));omega) fun hs=>?_
 ((try refine zW ?_);(try with_reducible exact True.intro))
 (refine at_call 200 ?_;(refine zW ?_;try with_reducible exact True.intro);refine callA_of (told_spec h) zB ?_;((try refine zW ?_);(try with_reducible exact True.intro)))
 ((try refine zW ?_);(try with_reducible exact True.intro))
 (refine at_gr 200 ?_;(refine zW ?_;try with_reducible exact True.intro);refine callG_of [] (OwnFF_blk h hg hc) zU ?_;((try refine zW ?_);(try with_reducible exact True.intro)))
 have e1:2+(1+h.inn.length)=3+h.inn.length:=by omega
 have e2:2+(1+(h.inn.length+1))=4+h.inn.length:=by omega
 have e3:1+(h.inn.length+2)=3+h.inn.length:=by omega
 have e4:1+(h.inn.length+3)=4+h.inn.length:=by omega
 (try simp (maxSteps:=2000000) (disch:=omega) only [go_sem,simprocAttr,zD,zE,look_famo,freshF_len])
 rw [e1,e2]
 refine EndG_shift 2 (.inr rfl) (Nat.zero_le _) (by(try simp (maxSteps:=2000000) only [go_sem,simprocAttr,e3])) (by((try refine zW ?_);(try with_reducible exact True.intro));omega) (ffW_low _ _ hc rfl) ?_ ?_
 ·(try simp (maxSteps:=2000000) only [go_sem,simprocAttr,e3,e4])
  have f1: ¬1=3+h.inn.length:=by omega
  have f3: ¬2+c=3+h.inn.length:=by omega
  refine⟨?_,allSeen_app.2 ⟨allSeen_famc fun i hi=>?_,?_,allSeen_famc fun i hi=>?_⟩⟩
  ·have f2: ¬c=0:=by omega
   (try simp (maxSteps:=2000000) only [go_sem,simprocAttr,f2])
  ·have hi':=hi
   rw [freshF_len] at hi'
   have g1: ¬1=3+i:=by omega
   have g2: ¬2+c=3+i:=by omega
   have g3: ¬2=3+i:=by omega
   (try simp (maxSteps:=2000000) only [go_sem,simprocAttr,g1,g2,g3,look_fam hi])
  ·have f4: ¬2=3+h.inn.length:=by omega
   rw [look_cons,if_neg f1,look_cons,if_neg f3,look_cons,if_neg f3,look_cons,if_neg f4,List.append_assoc,look_famo (by rw [freshF_len];omega),List.cons_append,look_cons,if_pos rfl]
  ·have hi':=hi
   rw [freshF_len] at hi'
   have g1: ¬1=4+h.inn.length+i:=by omega
   have g2: ¬2+c=4+h.inn.length+i:=by omega
   have g3: ¬2=4+h.inn.length+i:=by omega
   have g4: ¬3+h.inn.length=4+h.inn.length+i:=by omega
   rw [look_cons,if_neg g1,look_cons,if_neg g2,look_cons,if_neg g2,look_cons,if_neg g3,List.append_assoc,look_famo (by rw [freshF_len];omega),List.cons_append,look_cons,if_neg g4,look_fam hi]
 ·(try simp (maxSteps:=2000000) only [go_sem,simprocAttr,e3,e4])
end Go.Proofs.HO
