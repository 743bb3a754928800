/- Facts that the proofs of this claim lean on. -/
import Derived.Test.YtfhhdgkhajkapaaGreatNRd
import Derived.Test.YtfhhdgkhajkapaaGreatNWr
open Option renaming none→O
set_option linter.unusedSimpArgs false
set_option linter.unusedVariables false
namespace Go.Proofs.NO
open Go Go.Idl Go.Proofs Go.GP Go.Proofs.Tryz
set_option maxHeartbeats 20000000
set_option maxRecDepth 100000
theorem NodeOld_pure (s0:Sc) (n0:Int) (L:List Op):
  Pure prog 6 [lApp s0,sci .i64 n0,lOps L] (scb true):=by
 obtain⟨k8,kl,ko⟩:=qly s0;refine pcall0 200 (fn:=Tryz.f6) func6 rfl (by simp [ntmps6]) zB zB fun hs=>?_;try refine zW ?_
 (refine zG ?_;refine callA_of (qeL s0) zB ?_;try refine zW ?_);generalize cutSc s0=s at *;have hT:=qg4 k8 ko;try refine zW ?_
 (refine zG ?_;refine callA_of (qeK s k8 ko) zB ?_;try refine zW ?_);obtain⟨N,ls,T,ff,room,acts⟩:=s;simp only at k8 kl ko hT;(refine zG ?_;refine callA_of (qdN N ls T hT) zB ?_;try refine zW ?_);by_cases hH:TabP N ls T
 ·have eH:=qal hH;(try simp (maxSteps:=2000000) (disch:=omega) only [go_sem,simprocAttr,zD,zE,eH]);have hN:=hH.1.1;obtain⟨m,hm⟩: ∃m:Nat,(m:Int)=if n0 < 0∨N≤n0 then 0 else n0:=by
   split
   ·exact⟨0,rfl⟩
   ·exact⟨n0.toNat,by omega⟩
  have hmN:(m:Int) < N:=by rw [hm];split<;>omega
  have hmT:m < T.length:=by have:=hH.2.1;omega
  have hx:=List.getElem?_eq_getElem hmT;generalize T[m]=nd at hx;have hnew:=NOk.new (qiU hH hx) rfl;(refine zG ?_;refine callA_of (qfT N ls T ff n0 m nd kl hm hx) zB ?_;try refine zW ?_);generalize newN ⟨m,nd.start,0,List.replicate (ins m 0 ls).length [],List.replicate (outs m 0 ls).length []⟩=x0 at *;try refine zO ?_
  (refine walk_trim [2,3,7,8,9] trivial zL ?_;((try refine zW ?_);(try with_reducible exact True.intro)));have hz1:=qmf zNo (by decide);have hz2:=qjY zNo ⟨⟨by decide,by decide,by simp [zNo,zHs],by simp [zNo,zHs]⟩,⟨by decide,by decide,by decide,by simp [zNo,zMk,zPc],by simp [zNo,zMk,zPc]⟩,by decide,⟨by decide,by decide,by decide,by simp [zNo,zHu,zPc],by simp [zNo,zHu,zPc]⟩,by decide,by decide,by decide⟩;simp only [zNo,zHs,zMk,zHu,zTr,zPc] at hz1 hz2;refine qac 200 200 (fun i:Nat × No=>i.1≤L.length∧i.1≤30∧NOk N ls T i.1 i.2)
   (fun i=>⟨169, [(2,lOps L),(3, .ptr 0 0 0 0),(7, .ptr 1 0 0 0),(8, .ptr 2 0 0 0),(9,sci .i64 i.1)], [],3, [(2, .arr 28 0 [cNo i.2]),(1, .arr 4 0 [[sci .i64 N, .p (.imm 2 (pr eII ls)), .p (.imm 2 (pr eNd T)),scb ff]]),(0, .arr 4 0 [[sci .i64 N, .p (.imm 2 (pr eII ls)), .p (.imm 2 (pr eNd T)),scb ff]])]⟩) (fun i=>30 - i.1) (0,x0) [] ?_ ?_ ?_
  ·exact⟨Nat.zero_le _,Nat.zero_le _,hnew⟩
  ·constructor<;>(try simp (maxSteps:=2000000) (disch:=omega) only [go_sem,simprocAttr,zD,zE,Int.natCast_zero])
  ·clear hnew hm hmN hmT hx;rintro⟨i,x⟩ ⟨i1,i2,i3⟩;simp only at i1 i2 i3;try refine zW ?_
   by_cases hlt:i < L.length∧i < 30
   ·obtain⟨hl1,hl2⟩:=hlt;generalize hp:L[i]=p at *;obtain⟨kind,en,link,f⟩:=p;have hgp:=qiM f;have hC:=qeN f;have h7:(cutF f).ps.length≤1000:=by simp [cutF];omega
    obtain⟨nn,j,nd',hf⟩:=i3.hf;have hkt:=((hT.2 nn nd' hf.hx).2 j (stOf T x.h) hf.hq).2.2;have hwt:(stOf T x.h).waits.length≤1000:=by
     have:=((ko nd' (List.mem_of_getElem? hf.hx)).2 _ (List.mem_of_getElem? hf.hq)).1;omega
    generalize cutF f=q at *;have hHr:=qfq N ls T ff x link q i i3 (by omega) (by omega) kl hT hwt hgp;have okH:=i3.hear (by omega) (by omega) ff link q;have hIn:=qpb N x.h.node ls kl;have hIm:(ins x.h.node 0 ls).length≤1000000:=by have:=qgY x.h.node ls 0;omega
    have hR4:=qi8 (ins x.h.node 0 ls) link hIm;have hRf:=qn4 q h7;have hRt:=qkR q hgp;have hbad:(link ∉ ins x.h.node 0 ls∨ ¬FrP q)→hearN ls ff (stOf T x.h) x link q=errT 1:=fun h=>qqy (h.imp (fun q=>by
     rcases Int.lt_or_le (indexL link 0 (ins x.h.node 0 ls)) 0 with z | z
     ·exact z
     ·exact absurd (qcY.1 z) q) id)
    have hold:link∈ins x.h.node 0 ls→FrP q→q.kind≠0→q.kind≠6→q.epoch < x.t.epoch→(hearN ls ff (stOf T x.h) x link q).e=1∨(hearN ls ff (stOf T x.h) x link q).e=9:=fun h1 h2 k0 k6 ho=>qqz (qcY.2 h1) h2 k0 k6 ho
    have herr:=hear_err (ls:=ls) (ff:=ff) (st:=stOf T x.h) (x:=x) (link:=link) (f:=q);generalize hearN ls ff (stOf T x.h) x link q=d at *;generalize hins:ins x.h.node 0 ls=I at *;have hcs:q.kind=0∨(q.kind≠0∧q.kind=6)∨(q.kind≠0∧q.kind≠6∧q.epoch < x.t.epoch)∨(q.kind≠0∧q.kind≠6∧ ¬q.epoch < x.t.epoch):=by omega
    obtain⟨q1,q2,⟨q3,q4⟩,q5,q6,q7,q8,q9⟩:=q;simp only at hcs hold;(try simp (maxSteps:=2000000) (disch:=omega) only [go_sem,simprocAttr,zD,zE,eOpN,hp]);(refine zG ?_;refine callA_of (hC) zB ?_;try refine zW ?_);try refine zO ?_
    (refine zM [2,3,7,8,9,10] ?_;refine zI [O,O,O,O,O,O,O,O,some [14,15],O,O,O,O,O,some [0,1,2,3,4,5,6,7,8,9,10,11,12,13,15],some [0,1,2,3,4,5,6,7,8,9,10,11,12,13,14],some [11,12,13],O,some [13],O] ?_);(try simp (maxSteps:=2000000) (disch:=omega) only [go_sem,simprocAttr,zD,zE,eOpN,hp]);(refine zF ?_;refine callA_of (hHr) zB ?_;try refine zW ?_);(try simp (maxSteps:=2000000) (disch:=omega) only [go_sem,simprocAttr,zD,zE,eOpN,hp]);(refine zM [2,3,7,8,9,10,11,12,13,14] ?_;refine zI [O,O,O,O,O,some [6,7,8,9,10],O,O,O,O,O,some [],O] ?_);(try simp (maxSteps:=2000000) (disch:=omega) only [go_sem,simprocAttr,zD,zE,eOpN,hp]);(refine zF ?_;refine callA_of (hIn) zB ?_;try refine zW ?_);(try simp (maxSteps:=2000000) (disch:=omega) only [go_sem,simprocAttr,zD,zE,eOpN,hp]);(refine zF ?_;refine callA_of (hR4) zB ?_;try refine zW ?_);(try simp (maxSteps:=2000000) (disch:=omega) only [go_sem,simprocAttr,zD,zE,eOpN,hp]);by_cases cl:link∈I
    rotate_left
    ·have eL:=qaf cl;obtain rfl:=hbad (.inl cl);clear hbad hold herr okH hHr;rcases hcs with rfl | ⟨k0,rfl⟩ | ⟨k0,k6,k⟩ | ⟨k0,k6,k⟩;all_goals
      (try simp (maxSteps:=2000000) (disch:=omega) only [go_sem,simprocAttr,zD,zE,eL,errT,zNo,zHs,zMk,zHu,zTr,zPc]);(refine zG ?_;refine callA_of (hz1) zB ?_;try refine zW ?_);try refine zO ?_
      (refine zG ?_;refine callA_of (hz2) zB ?_;try refine zW ?_);try refine zO ?_
      refine⟨(i+1,x), [],⟨hl1,hl2,i3.mono (by omega)⟩,by simp only;omega,?_⟩;constructor<;>((try refine zO ?_);(try with_reducible exact True.intro))
    have eL:=qal cl;by_cases cr:FrP ⟨q1,q2,(q3,q4),q5,q6,q7,q8,q9⟩
    rotate_left
    ·have eR:=qaf cr;rw [eR] at hRt;obtain rfl:=hbad (.inr cr);clear hbad hold herr okH hHr;rcases hcs with rfl | ⟨k0,rfl⟩ | ⟨k0,k6,k⟩ | ⟨k0,k6,k⟩;all_goals
      (try simp (maxSteps:=2000000) (disch:=omega) only [go_sem,simprocAttr,zD,zE,eL,errT,zNo,zHs,zMk,zHu,zTr,zPc]);(refine zG ?_;refine callA_of (hRf) zB ?_;try refine zW ?_);try refine zO ?_
      (refine zG ?_;refine callA_of (hRt) zB ?_;try refine zW ?_);try refine zO ?_
      (refine zG ?_;refine callA_of (hRf) zB ?_;try refine zW ?_);try refine zO ?_
      (refine zG ?_;refine callA_of (hRt) zB ?_;try refine zW ?_);(try simp (maxSteps:=2000000) (disch:=omega) only [go_sem,simprocAttr,zD,zE,errT,zNo,zHs,zMk,zHu,zTr,zPc]);(refine zG ?_;refine callA_of (hz1) zB ?_;try refine zW ?_);try refine zO ?_
      (refine zG ?_;refine callA_of (hz2) zB ?_;try refine zW ?_);try refine zO ?_
      refine⟨(i+1,x), [],⟨hl1,hl2,i3.mono (by omega)⟩,by simp only;omega,?_⟩;constructor<;>((try refine zO ?_);(try with_reducible exact True.intro))
    have eR:=qal cr;rw [eR] at hRt;have hold2:=hold cl cr;clear hold hbad hHr;by_cases he:d.e=0
    ·have ok:=okH he;obtain⟨y,out,ps,path,e⟩:=d;simp only at he ok hold2;subst he;have hcs:q1=0∨(q1≠0∧q1=6)∨(q1≠0∧q1≠6∧ ¬q2 < x.t.epoch):=by
      rcases hcs with h | h | h | h
      ·exact .inl h
      ·exact .inr (.inl h)
      ·exact absurd (hold2 h.1 h.2.1 h.2.2) (by decide)
      ·exact .inr (.inr h)
     rcases hcs with rfl | ⟨k0,rfl⟩ | ⟨k0,k6,k⟩;all_goals
      (try simp (maxSteps:=2000000) (disch:=omega) only [go_sem,simprocAttr,zD,zE,eL]);(refine zG ?_;refine callA_of (hRf) zB ?_;try refine zW ?_);try refine zO ?_
      (refine zG ?_;refine callA_of (hRt) zB ?_;try refine zW ?_);try refine zO ?_
      (refine zG ?_;refine callA_of (hRf) zB ?_;try refine zW ?_);try refine zO ?_
      (refine zG ?_;refine callA_of (hRt) zB ?_;try refine zW ?_);try refine zO ?_
      refine⟨(i+1,y), [],⟨hl1,hl2,ok⟩,by simp only;omega,?_⟩;constructor<;>((try refine zO ?_);(try with_reducible exact True.intro))
    ·have hd:=herr he;obtain⟨y,out,ps,path,e⟩:=d;simp only at he hold2 hd;have eb:(e != 0)=true:=bne_iff_ne.2 he;have eb2:(e==0)=false:=beq_eq_false_iff_ne.2 he;simp only [errT,Td.mk.injEq] at hd;obtain⟨rfl,rfl,rfl,rfl, -⟩:=hd;clear okH herr;have hcs:q1=0∨(q1≠0∧q1=6)∨(q1≠0∧q1≠6∧q2 < x.t.epoch∧e=1)∨(q1≠0∧q1≠6∧q2 < x.t.epoch∧e=9)∨(q1≠0∧q1≠6∧ ¬q2 < x.t.epoch):=by
      rcases hcs with h | h | h | h
      ·exact .inl h
      ·exact .inr (.inl h)
      ·rcases hold2 h.1 h.2.1 h.2.2 with z | z
       ·exact .inr (.inr (.inl ⟨h.1,h.2.1,h.2.2,z⟩))
       ·exact .inr (.inr (.inr (.inl ⟨h.1,h.2.1,h.2.2,z⟩)))
      ·exact .inr (.inr (.inr (.inr h)))
     rcases hcs with rfl | ⟨k0,rfl⟩ | ⟨k0,k6,k,rfl⟩ | ⟨k0,k6,k,rfl⟩ | ⟨k0,k6,k⟩;all_goals
      (try simp (maxSteps:=2000000) (disch:=omega) only [go_sem,simprocAttr,zD,zE,eL]);(refine zG ?_;refine callA_of (hRf) zB ?_;try refine zW ?_);try refine zO ?_
      (refine zG ?_;refine callA_of (hRt) zB ?_;try refine zW ?_);try refine zO ?_
      (refine zG ?_;refine callA_of (hRf) zB ?_;try refine zW ?_);try refine zO ?_
      (refine zG ?_;refine callA_of (hRt) zB ?_;try refine zW ?_);(try simp (maxSteps:=2000000) (disch:=omega) only [go_sem,simprocAttr,zD,zE,eb,zNo,zHs,zMk,zHu,zTr,zPc]);(refine zG ?_;refine callA_of (hz1) zB ?_;try refine zW ?_);try refine zO ?_
      (refine zG ?_;refine callA_of (hz2) zB ?_;try refine zW ?_);(try simp (maxSteps:=2000000) (disch:=omega) only [go_sem,simprocAttr,zD,zE,eb,eb2]);refine⟨(i+1,x), [],⟨hl1,hl2,i3.mono (by omega)⟩,by simp only;omega,?_⟩;constructor<;>((try refine zO ?_);(try with_reducible exact True.intro))
   ·have hSt:=qei N ls T ff x x.t.epoch i i3 (by omega) (by omega) kl;rw [start_old (Int.le_refl _)] at hSt;simp only [errT,zNo,zHs,zMk,zHu,zTr,zPc] at hSt;rcases Nat.lt_or_ge i L.length with hl | hl;all_goals
     try refine zO ?_
     (refine zG ?_;refine callA_of (hSt) zB ?_;try refine zW ?_);try refine zO ?_
     (refine zG ?_;refine callA_of (qbQ) zB ?_;try refine zW ?_);((try refine zO ?_);(try with_reducible exact True.intro))
 ·have eH:=qaf hH;(try simp (maxSteps:=2000000) (disch:=omega) only [go_sem,simprocAttr,zD,zE,eH]);(refine zG ?_;refine callA_of (qbQ) zB ?_;try refine zW ?_);((try refine zO ?_);(try with_reducible exact True.intro))
end Go.Proofs.NO
/- The law NodeOld is proved: whatever is handed in, it answers true, and what is handed in reads as it did. No condition beyond the given statement's own. -/
namespace Go.Proofs.YtfhhdgkhajkapaaGreat
open Go Go.Idl Go.Proofs Go.Proofs.Tryz
set_option maxRecDepth 100000
open Go.ChangeShapes Go.WideShapes Go.ChangeAt Go.RowKit
theorem qmD (os:Os) (H:Type) (enc:TypeId × Value→H): ∃(w:World) (tape:Tape) (i:Input),w.os=os∧(w.forCall tape i).Shaped Tryz.checked.prog∧i.vars= []∧Input.okWide Tryz.checked.prog (w.forCall tape i) .any w.heap.size 6 i∧
   Rows.nodeOldSpec.pre6 enc Tryz.checked.prog Tryz.f6 [] false (w.forCall tape i).memory i.args∧({}:Assume).holds Tryz.checked.prog (lone (Frame.enter Tryz.checked.prog 6 i.args .normal) [] (w.forCall tape i)):=
 ChangeSpec.witness6 (enc:=enc) (C:=Tryz.checked) false ⟨#[],#[.agg #[.int .i64 0, .slice O 0 0, .slice O 0 0, .bool false], .int .i64 0, .slice O 0 0], []⟩ 8 (by kernel_rfl) (by kernel_rfl) (by kernel_rfl) (by kernel_rfl)
theorem NodeOld_holds:Rows.NodeOldSaid:=
 OpenClaim.holds_of_wide 6 Tryz.f6 rfl rfl rfl rfl rfl rfl rfl ⟨rfl,rfl,rfl,rfl,rfl⟩ rfl rfl rfl rfl rfl (by kernel_rfl) func6 qjW
  (of_decide_eq_true (by kernel_rfl)) (by unfold Func.isWrapper;rw [if_neg (by decide+kernel)];exact⟨rfl,rfl⟩)
  (fun os started H enc _=>qe7 (C:=Tryz.checked) (s:=Rows.nodeOldSpec) started Tryz.own (by kernel_rfl) func6
   (qmD os H enc)
   Tryz.laidOut (tb:=4) (by kernel_rfl) Tryz.underlying4 (by kernel_rfl) rfl (fun ds h=>match ds,h with | [_,_,_],_=>rfl)
   (argsOpen_cons qlB (fun _=>agg (by kernel_rfl)) (argsOpen_cons qaY (fun _=>one (by kernel_rfl)) (argsOpen_cons qlC (fun _=>one (by kernel_rfl)) (qdQ))))
   fun⟨a,n,l,_⟩ _=>NO.NodeOld_pure a n l)
end Go.Proofs.YtfhhdgkhajkapaaGreat
