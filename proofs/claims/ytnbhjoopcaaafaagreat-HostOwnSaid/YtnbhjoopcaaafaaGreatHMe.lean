/- What a host tells, its lists held. -/
import Derived.Test.YtnbhjoopcaaafaaGreatHMc
import Derived.Test.YtnbhjoopcaaafaaGreatHP4
set_option linter.unusedSimpArgs false
set_option linter.unusedVariables false
namespace Go.Proofs.HO
open Go Go.Idl Go.Proofs Go.GP
set_option maxHeartbeats 20000000
set_option maxRecDepth 100000
theorem PieceFF_blk (h:Hs) (hg:gHs h) {X:List Int} (hX:X=h.out.map fun l=>(l.length:Int)) {c:Nat} (hc:c=2+h.inn.length+h.out.length):PG Tryz.prog 31 [lHs h,scb true] [] c
  (.agg [sci .i64 h.node,sci .i64 h.state,sci .i64 h.steps,lI X, .ref 0 h.inn.length 0 h.inn.length, .ref (1+h.inn.length) h.out.length 0 h.out.length]) (ffW 0 h.inn h.out):=by
 obtain⟨node,state,steps,inn,out⟩:=h
 obtain⟨b2,b3,b4,b5⟩:=id hg
 simp only at b2 b3 b4 b5 hX hc ⊢
 have hXl:X.length=out.length:=by rw [hX,List.length_map]
 have hXs: ∀(i:Nat) (li:i < out.length),X.take (i+1)=X.take i++ [(out[i].length:Int)]:=fun i li=>by
  rw [hX,List.take_succ_eq_append_getElem (by rw [List.length_map];exact li),List.getElem_map]
 clear hX
 refine pg_of 200 (fn:=Tryz.f31) Tryz.func31 rfl (by simp [Tryz.ntmps31]) 0 rfl (by((try refine zW ?_);(try with_reducible exact True.intro))) (by((try refine zW ?_);(try with_reducible exact True.intro))) (ffW_low _ _ hc rfl) (ffW_has _ _ hc) (by((try refine zW ?_);(try with_reducible exact True.intro));omega) fun hs=>?_
 ((try refine zW ?_);(try with_reducible exact True.intro))
 (refine at_call 200 ?_;(refine zW ?_;try with_reducible exact True.intro);refine callA_of (told_spec ⟨node,state,steps,inn,out⟩) zB ?_;((try refine zW ?_);(try with_reducible exact True.intro)))
 ((try refine zW ?_);(try with_reducible exact True.intro))
 have hown:=OwnFF_blk ⟨node,state,steps,inn,out⟩ hg rfl
 simp only at hown
 have hνW:=νF_ffW (inn:=inn) (out:=out)
 have hν0:νF inn.length 0=4:=rfl
 have hν1:νF inn.length (1+inn.length)=5:=by unfold νF;rw [if_neg (by omega),if_neg (by omega),if_pos rfl]
 have hνi: ∀i j,i < 2+inn.length+out.length→j < 2+inn.length+out.length→νF inn.length i=νF inn.length j→i=j:=fun i j hi hj e=>νF_inj b2 b3 hi hj e
 have hνb: ∀i,i < 2+inn.length+out.length→2≤νF inn.length i∧νF inn.length i < 3000000:=fun i hi=>by have:=νF_bd b2 b3 hi;omega
 have eF:=freshF_len out
 have eFi:=freshF_len inn
 have hlow:=ffW_low inn out hc (Nat.zero_add c)
 generalize ffW 0 inn out=W0 at hown hνW hlow ⊢
 generalize νF inn.length=ν at *
 refine at_gN 200 ν 3000000 hown hνi hνb (by omega) ?_
 rw [hνW]
 (try simp (maxSteps:=2000000) (disch:=omega) only [go_sem,simprocAttr,zD,zE,hν0,hν1,look_famo,eF,eFi])
 refine walk_ownB 3000000 0 3 1 trivial rfl rfl rfl (.inr rfl) ?_
 simp only [List.set_cons_zero,List.set_cons_succ,Nat.reduceAdd]
 refine walk_floop 0 200 (fun i:Nat=>i≤out.length)
  (fun i=>⟨35, [(4, .ptr 1 0 0 0),(5, .ptr 3000000 0 0 0),(20,lLs out),(21,sci .i64 out.length),(22,sci .i64 i)], [],3000002,
   (3000001, .arr 1 i (ir eI (X.take i)))::(3000000, .arr 6 0 [[sci .i64 node,sci .i64 state,sci .i64 steps, .ref 3000001 i 0 i, .ref 4 inn.length 0 inn.length, .ref 5 out.length 0 out.length]])::(5, .arr 1 out.length (refsR 1000 (freshF out)))::(4, .arr 1 inn.length (refsR 1500000 (freshF inn)))::
    (1, .arr 6 0 [[sci .i64 0,sci .i64 0,sci .i64 0,nil0,nil0,nil0]])::(0, .arr 5 0 [[sci .i64 node,sci .i64 state,sci .i64 steps,lMs inn,lLs out]])::(enumB 1000 (famB 1 eI (freshF out))++enumB 1500000 (famB 2 eII (freshF inn)))⟩) (fun i=>out.length - i) 0 [] ?_ ?_ ?_
 ·simp
 ·constructor
  case blks=>
   (try simp (maxSteps:=2000000) (disch:=omega) only [go_sem,simprocAttr,zD,zE,look_famo,eF,eFi,List.take_zero])
   refine fblksIn_app (fblksIn_famc (.inl rfl) fun j hj=>?_) (fblksIn_famc (.inl rfl) fun j hj=>?_)
   ·have hj':=hj
    rw [eF] at hj'
    have e0: ¬3000001=1000+j:=by omega
    have e1: ¬3000000=1000+j:=by omega
    have e2: ¬5=1000+j:=by omega
    have e3: ¬4=1000+j:=by omega
    have e4: ¬1=1000+j:=by omega
    have e5: ¬0=1000+j:=by omega
    have hk:=look_fam (sz:=1) (e:=eI) (k:=1000) (r:= []) hj
    rw [List.append_nil] at hk
    (try simp (maxSteps:=2000000) (disch:=omega) only [go_sem,simprocAttr,zD,zE,e0,e1,e2,e3,e4,e5,look_famo,eF,eFi,look_fam hj,hk])
   ·have hj':=hj
    rw [eFi] at hj'
    have e0: ¬3000001=1500000+j:=by omega
    have e1: ¬3000000=1500000+j:=by omega
    have e2: ¬5=1500000+j:=by omega
    have e3: ¬4=1500000+j:=by omega
    have e4: ¬1=1500000+j:=by omega
    have e5: ¬0=1500000+j:=by omega
    have hk:=look_fam (sz:=2) (e:=eII) (k:=1500000) (r:= []) hj
    rw [List.append_nil] at hk
    (try simp (maxSteps:=2000000) (disch:=omega) only [go_sem,simprocAttr,zD,zE,e0,e1,e2,e3,e4,e5,look_famo,eF,eFi,look_fam hj,hk])
  all_goals(try simp (maxSteps:=2000000) (disch:=omega) only [go_sem,simprocAttr,zD,zE,Int.natCast_zero,List.take_zero])
 ·intro i h1
  by_cases li:i < out.length
  ·have hl5:=b5 out[i] (List.getElem_mem li)
   have hpt:X.take (i+1)=X.take i++ [(out[i].length:Int)]:=hXs i li
   have htt:(X.take i).length=i:=by rw [List.length_take];omega
   have hti:(X.take i).take i=X.take i:=by rw [List.take_take,Nat.min_self]
   ((try refine zW ?_);(try with_reducible exact True.intro))
   (try simp (maxSteps:=2000000) (disch:=omega) only [go_sem,simprocAttr,zD,zE,eLs,htt])
   refine⟨i+1, [],li,by omega,?_⟩
   constructor
   case blks=>
    (try simp (maxSteps:=2000000) (disch:=omega) only [go_sem,simprocAttr,zD,zE,hpt,hti,htt,ir_snoc,List.map_cons,List.map_nil,look_famo,eF,eFi])
    refine fblksIn_app (fblksIn_famc (.inl rfl) fun j hj=>?_) (fblksIn_famc (.inl rfl) fun j hj=>?_)
    ·have hj':=hj
     rw [eF] at hj'
     have e0: ¬3000001=1000+j:=by omega
     have e1: ¬3000000=1000+j:=by omega
     have e2: ¬5=1000+j:=by omega
     have e3: ¬4=1000+j:=by omega
     have e4: ¬1=1000+j:=by omega
     have e5: ¬0=1000+j:=by omega
     have hk:=look_fam (sz:=1) (e:=eI) (k:=1000) (r:= []) hj
     rw [List.append_nil] at hk
     (try simp (maxSteps:=2000000) (disch:=omega) only [go_sem,simprocAttr,zD,zE,e0,e1,e2,e3,e4,e5,look_famo,eF,eFi,look_fam hj,hk])
    ·have hj':=hj
     rw [eFi] at hj'
     have e0: ¬3000001=1500000+j:=by omega
     have e1: ¬3000000=1500000+j:=by omega
     have e2: ¬5=1500000+j:=by omega
     have e3: ¬4=1500000+j:=by omega
     have e4: ¬1=1500000+j:=by omega
     have e5: ¬0=1500000+j:=by omega
     have hk:=look_fam (sz:=2) (e:=eII) (k:=1500000) (r:= []) hj
     rw [List.append_nil] at hk
     (try simp (maxSteps:=2000000) (disch:=omega) only [go_sem,simprocAttr,zD,zE,e0,e1,e2,e3,e4,e5,look_famo,eF,eFi,look_fam hj,hk])
   all_goals(try simp (maxSteps:=2000000) (disch:=omega) only [go_sem,simprocAttr,zD,zE,hpt,hti,htt])
  ·obtain rfl:i=out.length:=by omega
   have e:X.take out.length=X:=List.take_of_length_le (by omega)
   ((try refine zO ?_);(try with_reducible exact True.intro))
   rw [vc_zero]
   refine walk_fcut 200 [3000001] ⟨35, [(4, .ptr 1 0 0 0),(5, .ptr 3000000 0 0 0)], [],3000002,
    (3000000, .arr 6 0 [[sci .i64 node,sci .i64 state,sci .i64 steps,lI X, .ref 4 inn.length 0 inn.length, .ref 5 out.length 0 out.length]])::(5, .arr 1 out.length (refsR 1000 (freshF out)))::(4, .arr 1 inn.length (refsR 1500000 (freshF inn)))::
    (1, .arr 6 0 [[sci .i64 0,sci .i64 0,sci .i64 0,nil0,nil0,nil0]])::(0, .arr 5 0 [[sci .i64 node,sci .i64 state,sci .i64 steps,lMs inn,lLs out]])::(enumB 1000 (famB 1 eI (freshF out))++enumB 1500000 (famB 2 eII (freshF inn)))⟩ trivial ?_ ?_
   ·constructor
    case gone=>
     refine gone_fam (fun b hb=>Nat.zero_le _) fun p hp hb=>?_
     have hb':p.1=3000001:=by simpa using hb
     simp only [List.mem_cons,List.mem_append] at hp
     rcases hp with rfl | rfl | rfl | rfl | rfl | hp | hp
     all_goals first | (simp only at hb';omega) | (obtain⟨q,hq,e,_⟩:=enumB_mem hp;rw [famB_len] at hq;omega)
    case blks=>
     (try simp (maxSteps:=2000000) (disch:=omega) only [go_sem,simprocAttr,zD,zE,look_famo,eF,eFi,e])
     refine fblksIn_app (fblksIn_famc (.inl rfl) fun j hj=>?_) (fblksIn_famc (.inl rfl) fun j hj=>?_)
     ·have hj':=hj
      rw [eF] at hj'
      have e0: ¬3000001=1000+j:=by omega
      have e1: ¬3000000=1000+j:=by omega
      have e2: ¬5=1000+j:=by omega
      have e3: ¬4=1000+j:=by omega
      have e4: ¬1=1000+j:=by omega
      have e5: ¬0=1000+j:=by omega
      have hk:=look_fam (sz:=1) (e:=eI) (k:=1000) (r:= []) hj
      rw [List.append_nil] at hk
      (try simp (maxSteps:=2000000) (disch:=omega) only [go_sem,simprocAttr,zD,zE,e0,e1,e2,e3,e4,e5,look_famo,eF,eFi,look_fam hj,hk])
     ·have hj':=hj
      rw [eFi] at hj'
      have e0: ¬3000001=1500000+j:=by omega
      have e1: ¬3000000=1500000+j:=by omega
      have e2: ¬5=1500000+j:=by omega
      have e3: ¬4=1500000+j:=by omega
      have e4: ¬1=1500000+j:=by omega
      have e5: ¬0=1500000+j:=by omega
      have hk:=look_fam (sz:=2) (e:=eII) (k:=1500000) (r:= []) hj
      rw [List.append_nil] at hk
      (try simp (maxSteps:=2000000) (disch:=omega) only [go_sem,simprocAttr,zD,zE,e0,e1,e2,e3,e4,e5,look_famo,eF,eFi,look_fam hj,hk])
    all_goals(try simp (maxSteps:=2000000) (disch:=omega) only [go_sem,simprocAttr,zD,zE,e])
   ((try refine zO ?_);(try with_reducible exact True.intro))
   refine EndG_nu ν (.inr rfl) (fun i j hi hj e=>hνi i j (by omega) (by omega) e) (by(try simp (maxSteps:=2000000) only [go_sem,simprocAttr,hν0,hν1])) (by((try refine zW ?_);(try with_reducible exact True.intro));omega) hlow ?_
   rw [hνW]
   refine⟨?_,allSeen_app.2 ⟨allSeen_famc fun j hj=>?_,?_,allSeen_famc fun j hj=>?_⟩⟩
   ·((try refine zO ?_);(try with_reducible exact True.intro))
   ·have hj':=hj
    rw [eFi] at hj'
    have e0: ¬3000001=1500000+j:=by omega
    have e1: ¬3000000=1500000+j:=by omega
    have e2: ¬5=1500000+j:=by omega
    have e3: ¬4=1500000+j:=by omega
    have e4: ¬1=1500000+j:=by omega
    have e5: ¬0=1500000+j:=by omega
    have hk:=look_fam (sz:=2) (e:=eII) (k:=1500000) (r:= []) hj
    rw [List.append_nil] at hk
    (try simp (maxSteps:=2000000) (disch:=omega) only [go_sem,simprocAttr,zD,zE,e0,e1,e2,e3,e4,e5,look_famo,eF,hk])
   ·((try refine zO ?_);(try with_reducible exact True.intro))
   ·have hj':=hj
    rw [eF] at hj'
    have e0: ¬3000001=1000+j:=by omega
    have e1: ¬3000000=1000+j:=by omega
    have e2: ¬5=1000+j:=by omega
    have e3: ¬4=1000+j:=by omega
    have e4: ¬1=1000+j:=by omega
    have e5: ¬0=1000+j:=by omega
    (try simp (maxSteps:=2000000) (disch:=omega) only [go_sem,simprocAttr,zD,zE,e0,e1,e2,e3,e4,e5,look_fam hj])
end Go.Proofs.HO
