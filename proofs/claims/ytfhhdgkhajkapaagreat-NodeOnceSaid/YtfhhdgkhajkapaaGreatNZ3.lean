/- Facts that the proofs of this claim lean on. -/
import Derived.Test.YtfhhdgkhajkapaaGreatNWr
import Derived.Test.YtfhhdgkhajkapaaGreatNNi
import Derived.Test.YtfhhdgkhajkapaaGreatNPJ
open Option renaming none→O, some→U
set_option linter.unusedSimpArgs false
set_option linter.unusedVariables false
/- The law NodeOnce's closed facts, one by one. -/
namespace Go.Proofs.YtfhhdgkhajkapaaGreat
open Go Go.Idl Go.Proofs Go.Proofs.Tryz
set_option maxRecDepth 100000
open Go.ChangeShapes Go.WideShapes Go.ChangeAt Go.RowKit
theorem qah {a b:Bool} (ha:a=true) (hb:b=true):(a && b)=true:=by rw [ha,hb];rfl
theorem qmE:Rows.nodeOnceRow.wf (OpenSpec.ofChange Rows.nodeOnceSpec)=true:=by kernel_rfl
theorem qmF:laidOutB Tryz.checked.prog=true:=by kernel_rfl
theorem qmG:mapsRowed Tryz.checked.prog=true:=by kernel_rfl
theorem qmH:Tryz.f4.params.all (Tryz.checked.prog.readableRec ·)=true:=by kernel_rfl
theorem qmI:namedTie Tryz.checked.prog Rows.nodeOnceRow.named Rows.nodeOnceSpec.vars=true:=by kernel_rfl
theorem qmJ:(Rows.nodeOnceRow.stops== [])=true:=by kernel_rfl
theorem qmK:(Tryz.checked.prog.stops== [])=true:=by kernel_rfl
theorem qmL:(Rows.nodeOnceRow.knobs== [])=true:=by kernel_rfl
theorem qmM:(Tryz.checked.prog.stopKnobs== [])=true:=by kernel_rfl
theorem qmN:(Rows.nodeOnceRow.inPlace==Tryz.checked.prog.inPlace 4)=true:=by kernel_rfl
theorem qko:(Rows.nodeOnceRow.unfollowed==Tryz.checked.prog.unfollowed 4)=true:=by kernel_rfl
theorem qkp:(Rows.nodeOnceRow.recurses==Tryz.checked.prog.recurses 4)=true:=by kernel_rfl
theorem qkq:(Rows.nodeOnceRow.named==Tryz.checked.prog.varsNamed 4)=true:=by kernel_rfl
theorem qkr:(Rows.nodeOnceRow.maps==(Tryz.f4.params.toList++Rows.nodeOnceSpec.plain.varTypes Tryz.checked.prog).any (Tryz.checked.prog.mapsRec ·))=true:=by kernel_rfl
theorem qks:(Rows.nodeOnceRow.ifaces==(Tryz.f4.params.toList++Rows.nodeOnceSpec.plain.varTypes Tryz.checked.prog).any (Tryz.checked.prog.ifacesRec ·))=true:=by kernel_rfl
theorem qkt:(Rows.nodeOnceRow.mapsOut==Tryz.checked.prog.mapsAmong Tryz.f4.resultTypes.toList)=true:=by kernel_rfl
theorem qku:(Rows.nodeOnceRow.loops==(Tryz.f4.params.toList++Rows.nodeOnceSpec.plain.varTypes Tryz.checked.prog).any (Tryz.checked.prog.loopsFrom ·))=true:=by kernel_rfl
theorem qkv:(Rows.nodeOnceRow.wideKeys==(Tryz.f4.params.toList++Rows.nodeOnceSpec.plain.varTypes Tryz.checked.prog++Tryz.f4.resultTypes.toList).any (Tryz.checked.prog.wideKeysFrom ·))=true:=by kernel_rfl
theorem qkw:Rows.nodeOnceSpec.vars.all (Tryz.checked.prog.varReadable ·)=true:=by kernel_rfl
theorem qkx:Tryz.f4.resultTypes.all (fun t=>Tryz.checked.prog.readableRec t && decide (t < Tryz.checked.prog.types.size))=true:=by kernel_rfl
theorem qky:(Rows.nodeOnceRow.ifacesOut==Tryz.f4.resultTypes.toList.any (Tryz.checked.prog.ifacesRec ·))=true:=by kernel_rfl
theorem qkz:(Rows.nodeOnceRow.loopsOut==Tryz.f4.resultTypes.toList.any (Tryz.checked.prog.loopsFrom ·))=true:=by kernel_rfl
theorem qkA:(Rows.nodeOnceRow.plainKeys==Tryz.checked.prog.plainKeys)=true:=by kernel_rfl
theorem qkB:Rows.nodeOnceRow.shortTexts.isNone=true:=by kernel_rfl
theorem qkC:Tryz.checked.prog.stopsHeard=true:=by kernel_rfl
theorem qkD:Tryz.checked.prog.mayEnter=true:=by kernel_rfl
theorem qkE:(Rows.nodeOnceRow.lifted==Tryz.checked.prog.liftsFinal)=true:=by kernel_rfl
theorem qkF:(Tryz.checked.prog.make==U Rows.nodeOnceRow.make)=true:=by kernel_rfl
theorem qkG:(Rows.nodeOnceRow.kinds==(if Rows.nodeOnceRow.domain.isEmpty then [] else Tryz.f4.params.toList.map fun t=>match Tryz.checked.prog.underlying t with | some (.int k)=>U k | _=>O))=true:=by kernel_rfl
theorem qkH:(Rows.nodeOnceRow.pinned==Rows.nodeOnceRow.pinnedBy)=true:=by kernel_rfl
theorem qkI:(Rows.nodeOnceRow.veiled==(Tryz.f4.params.toList++Rows.nodeOnceSpec.plain.varTypes Tryz.checked.prog++Tryz.f4.resultTypes.toList).any (Tryz.checked.prog.veiledRec ·))=true:=by kernel_rfl
theorem qkJ:Rows.nodeOnceRow.veiledFits Tryz.checked.prog Tryz.f4.params.toList (Tryz.f4.params.toList++Rows.nodeOnceSpec.plain.varTypes Tryz.checked.prog++Tryz.f4.resultTypes.toList)=true:=by kernel_rfl
theorem qiy:joinedFacts Tryz.checked.prog 4 Tryz.f4 Rows.nodeOnceSpec Rows.nodeOnceRow=true:=qah (qah (qah (qah (qah (qah (qah (qah (qah (qah (qah (qah (qah (qah (qah (qah (qah (qah (qah (qah (qah (qah (qah (qah (qah (qah (qah (qah (qah (qah (qah (qmE) qmF) qmG) qmH) qmI) qmJ) qmK) qmL) qmM) qmN) qko) qkp) qkq) qkr) qks) qkt) qku) qkv) qkw) qkx) qky) qkz) qkA) qkB) qkC) qkD) qkE) qkF) qkG) qkH) qkI) qkJ
end Go.Proofs.YtfhhdgkhajkapaaGreat
/- What a node sends once of an epoch: the plain law of NodeOnce. -/
namespace Go.Proofs.NO
open Go Go.Idl Go.Proofs Go.GP Go.GN Go.Proofs.Tryz
def kept (o:Ou):Bool:=!(o.f.kind==4 || o.f.kind==6)
def qgw (a b:Ou):Prop:=a.link=b.link∧a.f.kind=b.f.kind∧a.f.epoch=b.f.epoch
def evP:List Pc→List Ou→List Pc
 | ps, []=>ps
 | ps,o::l=>evP (if o.f.kind=5 then o.f.ps else ps) l
theorem qgT: ∀(l:List Ou) (ps:List Pc) (o:Ou),evP ps (l++ [o])=if o.f.kind=5 then o.f.ps else evP ps l
 | [],_,_=>rfl
 | a::l,ps,o=>qgT l _ o
theorem qhJ: ∀ {l:List Ou} {ps:List Pc},(∀o∈l,o.f.kind≠5)→evP ps l=ps
 | [],_,_=>rfl
 | a::l,ps,h=>by
   rw [evP,if_neg (h a (List.mem_cons_self ..))];exact qhJ fun o ho=>h o (List.mem_cons_of_mem _ ho)
structure Onc (x:No) (d:Td):Prop where
 node:d.x.h.node=x.h.node
 te:x.t.epoch≤d.x.t.epoch
 td:x.told≤d.x.told
 len:d.out.length≤1000
 each: ∀o∈d.out,kept o=true→(o.f.kind=5∧x.told < o.f.epoch∧o.f.epoch≤d.x.told)∨((1≤o.f.kind∧o.f.kind≤3)∧x.t.epoch < o.f.epoch∧o.f.epoch≤d.x.t.epoch)
 pw:d.out.Pairwise fun a b=>kept a=true→kept b=true→ ¬qgw a b
 ps:evP d.ps d.out= []∨(UpN (evP d.ps d.out)∧(∃p∈evP d.ps d.out,p.node=x.h.node)∧x.told < d.x.told)
 pl:(evP d.ps d.out).length≤7
def Past (x:No) (S:List Ou):Prop:= ∀o∈S,(o.f.kind=5∧o.f.epoch≤x.told)∨((1≤o.f.kind∧o.f.kind≤3)∧o.f.epoch≤x.t.epoch)
theorem Onc.fresh {x:No} {d:Td} (h:Onc x d) {S:List Ou} (hS:Past x S) {k:Nat} (hk:k < d.out.length) (hq:kept d.out[k]=true):
  ∀s∈S++(d.out.take k).filter kept,¬qgw s d.out[k]:=by
 intro s hs;have he:=h.each _ (List.getElem_mem hk) hq;rcases List.mem_append.1 hs with hs | hs
 ·rintro⟨h1,h2,h3⟩;rcases hS s hs with ⟨a1,a2⟩ | ⟨a1,a2⟩
  ·rcases he with ⟨b1,b2,b3⟩ | ⟨b1,b2,b3⟩<;>omega
  ·rcases he with ⟨b1,b2,b3⟩ | ⟨b1,b2,b3⟩<;>omega
 ·obtain⟨h1,h2⟩:=List.mem_filter.1 hs;obtain⟨j,hj,rfl⟩:=List.getElem_of_mem h1;rw [List.getElem_take] at h2 ⊢;have hj':j < k:=by rw [List.length_take] at hj;omega
  exact(List.pairwise_iff_getElem.1 h.pw) j k (by omega) hk hj' h2 hq
theorem Onc.past {x:No} {d:Td} (h:Onc x d) {S:List Ou} (hS:Past x S):Past d.x (S++d.out.filter kept):=by
 intro o ho;have h1:=h.te;have h2:=h.td;rcases List.mem_append.1 ho with ho | ho
 ·rcases hS o ho with ⟨a1,a2⟩ | ⟨a1,a2⟩
  ·exact .inl ⟨a1,by omega⟩
  ·exact .inr ⟨a1,by omega⟩
 ·obtain⟨a,b⟩:=List.mem_filter.1 ho;rcases h.each o a b with ⟨b1,b2,b3⟩ | ⟨b1,b2,b3⟩
  ·exact .inl ⟨b1,b3⟩
  ·exact .inr ⟨b1,b3⟩
section
variable {N:Int} {ls:List (Int × Int)} {T:List Nd} {t:Int} {x:No}
theorem qp4 {ff:Bool} {d:Td} (hx:NOk N ls T t d.x) (hp:d.ps= []) (h:(qaw ls ff d).e=0):
  ∃tail,(qaw ls ff d).out=d.out++tail∧((tail= []∧(qaw ls ff d).ps= []∧(qaw ls ff d).x=d.x)∨
   (d.x.told < d.x.t.epoch∧(qaw ls ff d).x=setTold d.x d.x.t.epoch∧ ∃P,UpN P∧(∃p∈P,p.node=d.x.h.node)∧P.length≤7∧
    ((tail= []∧(qaw ls ff d).ps=P)∨((qaw ls ff d).ps= []∧ ∃l,tail= [⟨l,⟨5,d.x.t.epoch,(0,0),P,0,0,0, []⟩⟩])))):=by
 unfold qaw at h ⊢;split
 ·rename_i c;rw [if_pos c] at h;split
  ·rename_i c2;rw [if_pos c2] at h;exact absurd h c2
  rename_i c2;obtain⟨c1,c3, -⟩:=c;have hn:(ownP ff d.x).node=d.x.h.node:=by
   have:=hx.td;cases ff
   ·simp only [qc4,Bool.false_eq_true,if_false] at c3;simp only [ownP,Bool.false_eq_true,if_false];exact hx.un (by omega)
   ·simp only [qc4,if_true] at c3;simp only [ownP,if_true];exact(hx.ml (by have:=c3.1;omega)).2
  obtain⟨q1,q2,q3⟩:(mrg d.x.got [ownP ff d.x]).2=0∧(mrg d.x.got [ownP ff d.x]).1.Perm (d.x.got++ [ownP ff d.x])∧UpN (mrg d.x.got [ownP ff d.x]).1:=by
   rcases mrg_cases d.x.got [ownP ff d.x] with ⟨q,_⟩ | q
   ·rw [q] at c2;exact absurd (by decide) c2
   ·exact q
  have hm: ∃p∈(mrg d.x.got [ownP ff d.x]).1,p.node=d.x.h.node:=⟨_,q2.mem_iff.2 (List.mem_append.2 (.inr (List.mem_singleton.2 rfl))),hn⟩;have hl:(mrg d.x.got [ownP ff d.x]).1.length≤7:=by
   rw [q2.length_eq,List.length_append,List.length_singleton];have:=hx.got6;omega
  split
  ·exact⟨[],by simp, .inr ⟨c1,rfl,_,q3,hm,hl, .inl ⟨rfl,rfl⟩⟩⟩
  ·exact⟨_,rfl, .inr ⟨c1,rfl,_,q3,hm,hl, .inr ⟨hp,_,rfl⟩⟩⟩
 ·exact⟨[],by simp, .inl ⟨rfl,hp,rfl⟩⟩
theorem onc_tell {ff:Bool} {d:Td} (hx:NOk N ls T t d.x) (hp:d.ps= []) (hn:d.x.h.node=x.h.node) (ht:x.t.epoch≤d.x.t.epoch) (hd:d.x.told=x.told) (hl:d.out.length≤6)
  (he: ∀o∈d.out,o.f.kind=4∨((1≤o.f.kind∧o.f.kind≤3)∧x.t.epoch < o.f.epoch∧o.f.epoch≤d.x.t.epoch))
  (hw:d.out.Pairwise fun a b=>kept a=true→kept b=true→ ¬qgw a b) (h:(qaw ls ff d).e=0):Onc x (qaw ls ff d):=by
 obtain⟨tail,e1,e2⟩:=qp4 hx hp h;have n5: ∀o∈d.out,o.f.kind≠5:=fun o ho=>by rcases he o ho with q | q<;>omega
 have hE: ∀o∈d.out,kept o=true→(o.f.kind=5∧x.told < o.f.epoch∧o.f.epoch≤(qaw ls ff d).x.told)∨((1≤o.f.kind∧o.f.kind≤3)∧x.t.epoch < o.f.epoch∧o.f.epoch≤d.x.t.epoch):=by
  intro o ho hk;rcases he o ho with q | q
  ·simp [kept,q] at hk
  ·exact .inr q
 rcases e2 with ⟨rfl,e3,e4⟩ | ⟨c1,e3,P,p1,p2,p3,e4⟩
 ·rw [List.append_nil] at e1;have eP:evP (qaw ls ff d).ps (qaw ls ff d).out= []:=by rw [e1,e3,qhJ n5]
  refine⟨by rw [e4];exact hn,by rw [e4];exact ht,by rw [e4,hd];exact Int.le_refl _,by rw [e1];omega,by rw [e1,e4];intro o ho hk;have:=hE o ho hk;rw [e4] at this;exact this,by rw [e1];exact hw, .inl eP,by rw [eP];simp⟩
 ·have x1:(qaw ls ff d).x.told=d.x.t.epoch:=by rw [e3];rfl
  have x2:(qaw ls ff d).x.t=d.x.t:=by rw [e3];rfl
  have x3:(qaw ls ff d).x.h=d.x.h:=by rw [e3];rfl
  rcases e4 with ⟨rfl,e5⟩ | ⟨e5,l,rfl⟩
  ·rw [List.append_nil] at e1;have eP:evP (qaw ls ff d).ps (qaw ls ff d).out=P:=by rw [e1,e5,qhJ n5]
   refine⟨by rw [x3];exact hn,by rw [x2];exact ht,by rw [x1];omega,by rw [e1];omega,by rw [e1,x2];exact hE,by rw [e1];exact hw, .inr ⟨by rw [eP];exact p1,by rw [eP,←hn];exact p2,by rw [x1];omega⟩,by rw [eP];exact p3⟩
  ·have eP:evP (qaw ls ff d).ps (qaw ls ff d).out=P:=by rw [e1,qgT,if_pos rfl]
   refine⟨by rw [x3];exact hn,by rw [x2];exact ht,by rw [x1];omega,by rw [e1];simp only [List.length_append,List.length_singleton];omega,?_,?_, .inr ⟨by rw [eP];exact p1,by rw [eP,←hn];exact p2,by rw [x1];omega⟩,by rw [eP];exact p3⟩
   ·intro o ho hk;rw [e1] at ho;rcases List.mem_append.1 ho with ho | ho
    ·rw [x2];exact hE o ho hk
    ·rw [List.mem_singleton.1 ho,x1];exact .inl ⟨rfl,by simp only;omega,Int.le_refl _⟩
   ·rw [e1,List.pairwise_append];refine⟨hw,List.pairwise_singleton ..,fun a ha b hb _ _ q=>?_⟩;rw [List.mem_singleton.1 hb] at q;exact n5 a ha q.2.1
theorem qjg {n:Int} {k e:Int}:((outs n 0 ls).map fun l=>(⟨l,ctl k e⟩:Ou)).Pairwise fun a b=>kept a=true→kept b=true→ ¬qgw a b:=by
 rw [List.pairwise_map];exact(qiX (n:=n) (ls:=ls) (s:=0)).imp fun {a b} h _ _ q=>by have:=q.1;simp only at this;omega
theorem qg1 (ff:Bool):kindN ff=1∨kindN ff=2:=by cases ff<;>simp [kindN]
theorem onc_hear (h:NOk N ls T t x) (ht:0≤t) (hb:t≤1000) (ff:Bool) (link:Int) (f:Fm) (he:(hearN ls ff (stOf T x.h) x link f).e=0)
  (hw:(stOf T x.h).waits.length≤1000):Onc x (hearN ls ff (stOf T x.h) x link f):=by
 unfold hearN at he ⊢;split
 ·rename_i c;rw [if_pos c] at he;cases he
 rename_i c;rw [if_neg c] at he;have hF:FrP f:=Classical.byContradiction fun q=>c (.inr q)
 have h5:=h.outs5;have h1:=h.mono (u:=t+1) (by omega);split
 ·rename_i k0;rw [if_pos k0] at he;unfold appN at he ⊢;split
  ·rename_i c2;rw [if_pos c2] at he;exact absurd he c2
  rename_i c2;have hn:=qfi (ls:=ls) (st:=stOf T x.h) (h:=x.h) (y:=link) (m:=f.m) (Classical.byContradiction c2);exact⟨hn,Int.le_refl _,Int.le_refl _,by simp,by simp,by simp, .inl rfl,by simp [evP]⟩
 rename_i k0;rw [if_neg k0] at he;split
 ·rename_i k1;rw [if_pos k1] at he;have e0:1≤f.epoch∧f.epoch≤200:=by
   rcases hF with q | q | q | q
   ·omega
   ·omega
   ·exact q.2.1.2.1
   ·omega
  unfold floodedN at he ⊢;split
  ·rename_i c2;rw [if_pos c2] at he;cases he
  rename_i c2;rw [if_neg c2] at he;split
  ·rename_i c3;rw [if_pos c3] at he;cases he
  rename_i c3;rw [if_neg c3] at he;have hx:NOk N ls T (t+1) ⟨x.h,if ff then(qa2 x.m x.h f.epoch (indexL link 0 (ins x.h.node 0 ls))).1 else x.m,if ff then x.u else(qa1 x.u x.h f.epoch).1,x.t,x.got,x.heard,x.told,x.seen⟩:=by
   cases ff
   ·exact h1.turn e0.2 (by omega)
   ·exact h1.mark e0 (by omega) _
  split
  ·rename_i c4;rw [if_pos c4] at he;refine onc_tell (N:=N) (T:=T) (t:=t+1) hx rfl rfl (Int.le_refl _) rfl (by simp) (fun o ho=> .inl ?_) (List.pairwise_singleton ..) he;rw [List.mem_singleton.1 ho];rfl
  ·rename_i c4;rw [if_neg c4] at he;have htd:=h1.td;have hT:(qbR x.t f.epoch link (outs x.h.node 0 ls).length).1.epoch=f.epoch:=by unfold qbR;rw [if_neg c4]
   refine onc_tell (N:=N) (T:=T) (t:=t+1) (NOk.flood ?_ ff _) rfl rfl ?_ rfl ?_ ?_ ?_ he
   ·refine hx.tree ?_ ?_ ?_ ?_
    ·unfold qbR;rw [if_neg c4];simp only;split<;>omega
    ·unfold qbR;rw [if_neg c4];simp only;omega
    ·unfold qbR;rw [if_neg c4];simp;omega
    ·unfold qbR;rw [if_neg c4];simp only;omega
   ·simp only [floodN];rw [hT];omega
   ·simp only [floodN,List.length_append,List.length_map,List.length_singleton];omega
   ·intro o ho;refine .inr ?_;simp only [floodN] at ho ⊢;rw [hT];rcases List.mem_append.1 ho with ho | ho
    ·rw [List.mem_singleton.1 ho];simp only [ctl];omega
    ·obtain⟨l, -,rfl⟩:=List.mem_map.1 ho;have:=qg1 ff;simp only [ctl];omega
   ·simp only [floodN];rw [List.pairwise_append];refine⟨List.pairwise_singleton ..,qjg,fun a ha b hb _ _ q=>?_⟩;rw [List.mem_singleton.1 ha] at q;obtain⟨l, -,rfl⟩:=List.mem_map.1 hb;have:=qg1 ff;have:=q.2.1;simp only [ctl] at this;omega
 rename_i k1;rw [if_neg k1] at he;split
 ·rename_i k2;rw [if_pos k2] at he;unfold repliedN at he ⊢;split
  ·rename_i c2;rw [if_pos c2] at he;exact absurd he c2
  rename_i c2;rw [if_neg c2] at he;have q: ¬(x.t.epoch≠f.epoch∨x.t.wait < 1):=fun q=>c2 (by unfold replyT;rw [if_pos q];decide)
  have q1: ¬x.t.wait < 1:=fun z=>q (.inr z)
  have htw:=h.tw;have htk:=h.tk;have htd:=h.td;have hT:(replyT x.t f.epoch (qaz ls link) (f.kind==3)).1.epoch=x.t.epoch:=by unfold replyT;rw [if_neg q]
  refine onc_tell (N:=N) (T:=T) (t:=t+1) ?_ rfl rfl ?_ rfl (by simp) (by simp) (by simp) he
  ·refine h1.tree ?_ ?_ ?_ ?_
   ·unfold replyT;rw [if_neg q];simp only;omega
   ·unfold replyT;rw [if_neg q];exact h.te
   ·unfold replyT;rw [if_neg q];simp only;split
    ·simp only [List.length_append,List.length_singleton];omega
    ·omega
   ·unfold replyT;rw [if_neg q];exact htd.2
  ·simp only;rw [hT];exact Int.le_refl _
 rename_i k2;rw [if_neg k2] at he;split
 ·rename_i k3;rw [if_pos k3] at he;unfold reportedN at he ⊢;split
  ·rename_i c2;rw [if_pos c2] at he;cases he
  rename_i c2;rw [if_neg c2] at he;split
  ·rename_i c3;rw [if_pos c3] at he;exact absurd he c3
  rename_i c3;rw [if_neg c3] at he;have hp: ∀p∈f.ps,qaA p:=by
   rcases hF with q | q | q | q
   ·omega
   ·omega
   ·omega
   ·exact q.2.2.2
  rcases mrg_cases x.got f.ps with ⟨q,_⟩ | ⟨_,q1,q2⟩
  ·rw [q] at c3;exact absurd (by decide) c3
  have hhd:=h.hd;refine onc_tell (N:=N) (T:=T) (t:=t+1) ?_ rfl rfl (Int.le_refl _) rfl (by simp) (by simp) (by simp) he;exact⟨h1.host,h1.st,h1.gm,h1.m0,h1.mo,h1.ml,h1.gu,h1.u0,h1.un,h1.tw,h1.te,h1.tk,fun p hp'=>by
   rcases List.mem_append.1 (q1.mem_iff.1 hp') with z | z
   ·exact h.got p z
   ·exact hp p z,q2,⟨by simp only;omega,by simp only;omega⟩,h1.td,h1.sn⟩
 rename_i k3;have hk: ∀o∈(hearP ls (stOf T x.h) x.h x.seen link f).2.1,o.f.kind=6:=by
  intro o ho;unfold hearP at ho;split at ho
  ·cases ho
  split at ho
  ·cases ho
  split at ho
  ·cases ho
  ·obtain⟨w, -,rfl⟩:=List.mem_map.1 ho;rfl
 have hl:(hearP ls (stOf T x.h) x.h x.seen link f).2.1.length≤1000:=by
  unfold hearP;split
  ·simp
  split
  ·simp
  split
  ·simp
  ·simp only [sendsP,List.length_map];exact hw
 have hk': ∀o∈(hearP ls (stOf T x.h) x.h x.seen link f).2.1,kept o=false:=fun o ho=>by simp [kept,hk o ho]
 have eP:evP (probedN ls (stOf T x.h) x link f).ps (probedN ls (stOf T x.h) x link f).out= []:=qhJ fun o ho=>by rw [hk o ho];decide
 refine⟨rfl,Int.le_refl _,Int.le_refl _,hl,fun o ho q=>(by rw [hk' o ho] at q;cases q),?_, .inl eP,(by rw [eP];simp)⟩;refine List.Pairwise.imp_of_mem (R:=fun _ _=>True) (fun {a b} ha hb _ q=>?_) (List.pairwise_of_forall fun _ _=>trivial);rw [hk' a ha] at q;cases q
theorem onc_start (h:NOk N ls T t x) (ht:0≤t) (ff:Bool) (e:Int) (he:(startN ls ff x e).e=0):Onc x (startN ls ff x e):=by
 unfold startN at he ⊢;split
 ·rename_i c;rw [if_pos c] at he;cases he
 rename_i c;rw [if_neg c] at he;have e0:1≤e∧e≤200∧x.t.epoch < e:=by omega
 have hx:NOk N ls T t ⟨x.h,if ff then qa6 x.h e else x.m,if ff then x.u else(qa1 x.u x.h e).1,x.t,x.got,x.heard,x.told,x.seen⟩:=by
  cases ff
  ·exact h.turn e0.2.1 ht
  ·exact h.begin_ ⟨e0.1,e0.2.1⟩ ht
 have h5:=h.outs5;have htd:=h.td;refine onc_tell (N:=N) (T:=T) (t:=t) (NOk.flood ?_ ff _) rfl rfl ?_ rfl ?_ ?_ ?_ he
 ·refine hx.tree ?_ ?_ ?_ ?_
  ·unfold qbT;simp only;split<;>omega
  ·unfold qbT;simp only;omega
  ·unfold qbT;simp;omega
  ·unfold qbT;simp only;omega
 ·simp only [floodN,qbT];omega
 ·simp only [floodN,List.nil_append,List.length_map];omega
 ·intro o ho;refine .inr ?_;simp only [floodN,qbT,List.nil_append] at ho ⊢;obtain⟨l, -,rfl⟩:=List.mem_map.1 ho;have:=qg1 ff;simp only [ctl];omega
 ·simp only [floodN,List.nil_append];exact qjg
end
end Go.Proofs.NO
namespace Go.Proofs.NO
open Go Go.Idl Go.Proofs Go.GP Go.Proofs.Tryz
set_option maxHeartbeats 20000000
set_option maxRecDepth 100000
def Tz (told:Int) (tl:List Int):Prop:=tl.length=201∧ ∀(e:Nat) (h:e < tl.length),told < e→tl[e]=0
theorem NodeOnce_pure (s0:Sc) (n0:Int) (L:List Op):
  Pure prog 4 [lApp s0,sci .i64 n0,lOps L] (scb true):=by
 obtain⟨k8,kl,ko⟩:=qly s0;refine pcall0 200 (fn:=Tryz.f4) func4 rfl (by simp [ntmps4]) zB zB fun hs=>?_;try refine zW ?_
 (refine zG ?_;refine callA_of (qeL s0) zB ?_;try refine zW ?_);generalize cutSc s0=s at *;have hT:=qg4 k8 ko;try refine zW ?_
 (refine zG ?_;refine callA_of (qeK s k8 ko) zB ?_;try refine zW ?_);obtain⟨N,ls,T,ff,room,acts⟩:=s;simp only at k8 kl ko hT;(refine zG ?_;refine callA_of (qdN N ls T hT) zB ?_;try refine zW ?_);by_cases hH:TabP N ls T
 ·have eH:=qal hH;(try simp (maxSteps:=2000000) (disch:=omega) only [go_sem,simprocAttr,zD,zE,eH]);have hN:=hH.1.1;obtain⟨m,hm⟩: ∃m:Nat,(m:Int)=if n0 < 0∨N≤n0 then 0 else n0:=by
   split
   ·exact⟨0,rfl⟩
   ·exact⟨n0.toNat,by omega⟩
  have hmN:(m:Int) < N:=by rw [hm];split<;>omega
  have hmT:m < T.length:=by have:=hH.2.1;omega
  have hx:=List.getElem?_eq_getElem hmT;generalize T[m]=nd at hx;have hnew:=NOk.new (qiU hH hx) rfl;(refine zM [1,2,3] ?_;refine zI [O,O,U [3,4,5],U [0,1,2,4,5,6],U [0,1,2,3,5,6,7],U [0,1,2,3,4],U [3,4],O,O] ?_);try refine zO ?_
  have hz0: ∀k,List.replicate k [sci .i64 0]=ir eI (List.replicate k (0:Int)):=fun k=>by simp [ir,eI,sci]
  obtain⟨Z,hZ⟩: ∃Z:List Int,Z=List.replicate 201 0:=⟨_,rfl⟩;have hz:=hz0 201;rw [←hZ] at hz;(refine zF ?_;refine callA_of (qfT N ls T ff n0 m nd kl hm hx) zB ?_;try refine zW ?_);generalize newN ⟨m,nd.start,0,List.replicate (ins m 0 ls).length [],List.replicate (outs m 0 ls).length []⟩=x0 at *;try refine zO ?_
  (refine walk_trim [2,3,8,9,10,11] trivial zL ?_;((try refine zW ?_);(try with_reducible exact True.intro)));refine qbe 9 10 trivial rfl (.inl rfl) ?_;have hz':=hz.symm;refine qac 200 200 (fun i:Nat × No × List Ou × Nat × List Int=>i.1≤L.length∧i.1≤40∧NOk N ls T i.1 i.2.1∧Past i.2.1 i.2.2.1∧i.2.2.1.length≤1000 * i.1∧Tz i.2.1.told i.2.2.2.2)
   (fun i=>⟨228, [(2,lOps L),(3, .ptr 0 0 0 0),(8, .ptr 3 0 0 0),(9, .ref 4 i.2.2.2.1 0 i.2.2.1.length),(10, .ref 2 0 0 201),(11,sci .i64 i.1)], [],5, [(4, .arr 10 i.2.2.2.1 (ir eOu i.2.2.1)),(3, .arr 28 0 [cNo i.2.1]),(2, .arr 1 0 (ir eI i.2.2.2.2)),(0, .arr 4 0 [[sci .i64 N, .p (.imm 2 (pr eII ls)), .p (.imm 2 (pr eNd T)),scb ff]])]⟩) (fun i=>40 - i.1) (0,x0, [],0,Z) [] ?_ ?_ ?_
  ·refine⟨Nat.zero_le _,Nat.zero_le _,hnew,fun o ho=>(by cases ho),Nat.zero_le _,?_⟩;rw [hZ];exact⟨List.length_replicate,fun e h _=>List.getElem_replicate ..⟩
  ·constructor<;>(try simp (maxSteps:=2000000) (disch:=omega) only [go_sem,simprocAttr,zD,zE,Int.natCast_zero,hz'])
  ·clear hnew hm hmN hmT hx hz hz' hz0 hZ;rintro⟨i,x,S,g,tl⟩ ⟨i1,i2,i3,i4,i5,i6⟩;simp only at i1 i2 i3 i4 i5 i6;have htl:=i6.1;have htt:tl.take 201=tl:=List.take_of_length_le (by omega);have hSt:S.take S.length=S:=List.take_length;try refine zW ?_
   by_cases hlt:i < L.length∧i < 40
   ·obtain⟨hl1,hl2⟩:=hlt;generalize hp:L[i]=p at *;obtain⟨kind,en,link,f⟩:=p;have hgp:=qiM f;have hC:=qeN f;obtain⟨nn,j,nd',hf⟩:=i3.hf;have hkt:=((hT.2 nn nd' hf.hx).2 j (stOf T x.h) hf.hq).2.2;have hwt:(stOf T x.h).waits.length≤1000:=by
     have:=((ko nd' (List.mem_of_getElem? hf.hx)).2 _ (List.mem_of_getElem? hf.hq)).1;omega
    generalize cutF f=q at *;have hHr:=qfq N ls T ff x link q i i3 (by omega) (by omega) kl hT hwt hgp;have hSr:=qei N ls T ff x en i i3 (by omega) (by omega) kl;have hOH:(hearN ls ff (stOf T x.h) x link q).e=0→Onc x (hearN ls ff (stOf T x.h) x link q)∧NOk N ls T (i+1) (hearN ls ff (stOf T x.h) x link q).x:=fun he=>⟨onc_hear i3 (by omega) (by omega) ff link q he hwt,i3.hear (by omega) (by omega) ff link q he⟩
    have hOS:(startN ls ff x en).e=0→Onc x (startN ls ff x en)∧NOk N ls T (i+1) (startN ls ff x en).x:=fun he=>⟨onc_start i3 (by omega) ff en he,(i3.start (by omega) ff en he).mono (by omega)⟩
    generalize hearN ls ff (stOf T x.h) x link q=d at *;generalize startN ls ff x en=d2 at *;(try simp (maxSteps:=2000000) (disch:=omega) only [go_sem,simprocAttr,zD,zE,eOpN,hp]);(refine zG ?_;refine callA_of (hC) zB ?_;try refine zW ?_);try refine zO ?_
    (refine zM [2,3,8,9,10,11,12] ?_;refine zI [O,O,O,O,O,O,O,O,U [14,15],O,O,O,O,O,U [0,1,2,3,4,5,6,7,8,9,10,11,12,13,15],U [0,1,2,3,4,5,6,7,8,9,10,11,12,13,14],U [11,12,13],O,U [13],O] ?_);(try simp (maxSteps:=2000000) (disch:=omega) only [go_sem,simprocAttr,zD,zE,eOpN,hp]);(refine zF ?_;refine callA_of (hHr) zB ?_;try refine zW ?_);(try simp (maxSteps:=2000000) (disch:=omega) only [go_sem,simprocAttr,zD,zE,eOpN,hp]);cases ck:(bits .and .i64 kind 3==1)
    case' false=>
     (try simp (maxSteps:=2000000) (disch:=omega) only [go_sem,simprocAttr,zD,zE,ck]);have hO:=hOH;by_cases he:d.e=0
     rotate_left
     ·have eb:(d.e != 0)=true:=bne_iff_ne.2 he;(try simp (maxSteps:=2000000) (disch:=omega) only [go_sem,simprocAttr,zD,zE,eb]);refine⟨(i+1,x,S,g,tl), [],⟨hl1,hl2,i3.mono (by omega),i4,(by simp only;omega),i6⟩,(by simp only;omega),?_⟩;constructor<;>((try refine zO ?_);(try with_reducible exact True.intro))
     have eb:(d.e != 0)=false:=by simp [he]
     (try simp (maxSteps:=2000000) (disch:=omega) only [go_sem,simprocAttr,zD,zE,eb]);(refine walk_trim [2,3,8,9,10,11,14,15,17] trivial zL ?_;((try refine zW ?_);(try with_reducible exact True.intro)));clear hHr hSr hOH hOS d2 hC hgp eb;obtain⟨y,out,ps,path,e⟩:=d;simp only at he hO;subst he
    case' true=>
     (try simp (maxSteps:=2000000) (disch:=omega) only [go_sem,simprocAttr,zD,zE,ck]);(refine zM [2,3,8,9,10,11,13,15] ?_;refine zI [O,O,O,O,O,O,O,U [],O,O,O,O,O,U [10,11,12],O,U [12],O] ?_);(try simp (maxSteps:=2000000) (disch:=omega) only [go_sem,simprocAttr,zD,zE,eOpN,hp]);(refine zF ?_;refine callA_of (hSr) zB ?_;try refine zW ?_);try refine zO ?_
     have hO:=hOS;by_cases he:d2.e=0
     rotate_left
     ·have eb:(d2.e != 0)=true:=bne_iff_ne.2 he;(try simp (maxSteps:=2000000) (disch:=omega) only [go_sem,simprocAttr,zD,zE,eb]);refine⟨(i+1,x,S,g,tl), [],⟨hl1,hl2,i3.mono (by omega),i4,(by simp only;omega),i6⟩,(by simp only;omega),?_⟩;constructor<;>((try refine zO ?_);(try with_reducible exact True.intro))
     have eb:(d2.e != 0)=false:=by simp [he]
     (try simp (maxSteps:=2000000) (disch:=omega) only [go_sem,simprocAttr,zD,zE,eb]);(refine walk_trim [2,3,8,9,10,11,14,15,17] trivial zL ?_;((try refine zW ?_);(try with_reducible exact True.intro)));clear hHr hSr hOH hOS d hC hgp eb;obtain⟨y,out,ps,path,e⟩:=d2;simp only at he hO;subst he
    all_goals
     try refine zO ?_
     obtain⟨hO,ok⟩:=hO rfl;have hlo:=hO.len;simp only at hlo;obtain⟨A,hA⟩: ∃A:Nat→List Ou,∀k,A k=S++(out.take k).filter kept:=⟨_,fun _=>rfl⟩;obtain⟨P,hP⟩: ∃P:Nat→List Pc,∀k,P k=evP ps (out.take k):=⟨_,fun _=>rfl⟩;have a0:A 0=S:=by rw [hA,List.take_zero];simp
     have p0:P 0=ps:=by rw [hP,List.take_zero];rfl
     have aN:A out.length=S++out.filter kept:=by rw [hA,List.take_length]
     have pN:P out.length=evP ps out:=by rw [hP,List.take_length]
     have aS: ∀(k:Nat) (h:k < out.length),A (k+1)=A k++(if kept out[k]=true then [out[k]] else []):=fun k h=>by
      rw [hA,hA,List.take_succ_eq_append_getElem h,List.filter_append,List.append_assoc];simp only [List.filter_cons,List.filter_nil]
     have pS: ∀(k:Nat) (h:k < out.length),P (k+1)=if out[k].f.kind=5 then out[k].f.ps else P k:=fun k h=>by
      rw [hP,hP,List.take_succ_eq_append_getElem h,qgT]
     have aF: ∀(k:Nat) (h:k < out.length),kept out[k]=true→ ∀s∈A k,¬qgw s out[k]:=fun k h hk=>by
      rw [hA];exact hO.fresh i4 h hk
     have aB: ∀k,(A k).length≤1000 * i+1000:=fun k=>by
      rw [hA,List.length_append];have h1:=List.length_filter_le kept (out.take k);have h2:(out.take k).length≤out.length:=by rw [List.length_take];omega
      omega
     clear hA hP;refine qac 200 200 (fun k:Nat × Nat=>k.1≤out.length)
      (fun k=>⟨228, [(2,lOps L),(3, .ptr 0 0 0 0),(8, .ptr 3 0 0 0),(9, .ref 4 k.2 0 (A k.1).length),(10, .ref 2 0 0 201),(11,sci .i64 i),(14,lOus out),(15, .ptr 7 0 0 0),(17,sci .i64 k.1)], [],8, [(7, .arr 2 0 [[lPs (P k.1),lI path]]),(4, .arr 10 k.2 (ir eOu (A k.1))),(3, .arr 28 0 [cNo y]),(2, .arr 1 0 (ir eI tl)),(0, .arr 4 0 [[sci .i64 N, .p (.imm 2 (pr eII ls)), .p (.imm 2 (pr eNd T)),scb ff]])]⟩) (fun k=>out.length - k.1) (0,g) [] ?_ ?_ ?_
     ·simp
     ·constructor<;>(try simp (maxSteps:=2000000) (disch:=omega) only [go_sem,simprocAttr,zD,zE,Int.natCast_zero,List.take_of_length_le,List.append_assoc,a0,p0])
     ·rintro⟨k,g2⟩ hk;simp only at hk;try refine zW ?_
      by_cases lk:k < out.length
      ·have sA:=aS k lk;have sP:=pS k lk;have sF:=aF k lk;have sB:=aB k;have sT:(A k).take (A k).length=A k:=List.take_length;generalize hq:out[k]=o at *;obtain⟨ol,fk,fe,⟨fm1,fm2⟩,fps,fi,fn,fc,fpa⟩:=o;simp only at sP;by_cases k46:fk=4∨fk=6
       ·have sA':A (k+1)=A k:=by
         rw [sA,if_neg (by rcases k46 with rfl | rfl<;>simp [kept]),List.append_nil]
        have sP':P (k+1)=P k:=by rw [sP,if_neg (by omega)]
        rcases k46 with rfl | rfl;all_goals
         (try simp (maxSteps:=2000000) (disch:=omega) only [go_sem,simprocAttr,zD,zE,eOu,hq]);refine⟨(k+1,g2), [],by first | assumption | omega,?_,?_⟩
         ·(try simp only []);omega
         ·constructor<;>(try simp (maxSteps:=2000000) (disch:=omega) only [go_sem,simprocAttr,zD,zE,sA',sP',List.append_assoc])
       ·have c4: ¬fk=4:=fun q=>k46 (.inl q)
        have c6: ¬fk=6:=fun q=>k46 (.inr q)
        have hk:kept ⟨ol,fk,fe,(fm1,fm2),fps,fi,fn,fc,fpa⟩=true:=by simp [kept,c4,c6]
        rw [if_pos hk] at sA;have sF:=sF hk;(try simp (maxSteps:=2000000) (disch:=omega) only [go_sem,simprocAttr,zD,zE,eOu,hq,c4,c6]);(refine walk_trim [2,3,8,9,10,11,14,15,17,18,19] trivial zL ?_;((try refine zW ?_);(try with_reducible exact True.intro)));refine qac 200 200 (fun j:Nat=>j≤(A k).length)
         (fun j=>⟨228, [(2,lOps L),(3, .ptr 0 0 0 0),(8, .ptr 3 0 0 0),(9, .ref 4 g2 0 (A k).length),(10, .ref 2 0 0 201),(11,sci .i64 i),(14,lOus out),(15, .ptr 7 0 0 0),(17,sci .i64 k),(18, .ptr 8 0 0 0),(19,sci .i64 j)], [],9, [(8, .arr 10 0 [[sci .i64 ol,sci .i64 fk,sci .i64 fe,sci .i64 fm1,sci .i64 fm2,lPs fps,sci .i64 fi,sci .i64 fn,sci .i64 fc,lI fpa]]),(7, .arr 2 0 [[lPs (P k),lI path]]),(4, .arr 10 g2 (ir eOu (A k))),(3, .arr 28 0 [cNo y]),(2, .arr 1 0 (ir eI tl)),(0, .arr 4 0 [[sci .i64 N, .p (.imm 2 (pr eII ls)), .p (.imm 2 (pr eNd T)),scb ff]])]⟩) (fun j=>(A k).length - j) (0) [] ?_ ?_ ?_
        ·simp
        ·constructor<;>(try simp (maxSteps:=2000000) (disch:=omega) only [go_sem,simprocAttr,zD,zE,Int.natCast_zero,List.take_of_length_le,List.append_assoc])
        ·rintro j hj;try refine zW ?_
         by_cases lj:j < (A k).length
         ·have hns:=sF _ (List.getElem_mem lj);generalize hsq:(A k)[j]=s at *;obtain⟨sl,sk,se,⟨sm1,sm2⟩,sps,si,sn,sc,spa⟩:=s;simp only [qgw] at hns;try refine zO ?_
          (refine zM [2,3,8,9,10,11,14,15,17,18,19] ?_;refine zI [O,O,O,O,O,O,O,O,O,O,O,O,O,O,O,O,O,O,O,O,O,O,O,O,O,O,O,O,O,O,O,O] ?_);by_cases l1:sl=ol
          rotate_left
          ·(try simp (maxSteps:=2000000) (disch:=omega) only [go_sem,simprocAttr,zD,zE,eOu,hsq,l1]);refine⟨j+1, [],by first | assumption | omega,?_,?_⟩
           ·(try simp only []);omega
           ·constructor<;>(try simp (maxSteps:=2000000) (disch:=omega) only [go_sem,simprocAttr,zD,zE,List.append_assoc])
          by_cases l2:sk=fk
          rotate_left
          ·(try simp (maxSteps:=2000000) (disch:=omega) only [go_sem,simprocAttr,zD,zE,eOu,hsq,l1,l2]);refine⟨j+1, [],by first | assumption | omega,?_,?_⟩
           ·(try simp only []);omega
           ·constructor<;>(try simp (maxSteps:=2000000) (disch:=omega) only [go_sem,simprocAttr,zD,zE,List.append_assoc])
          have l3: ¬se=fe:=fun q=>hns ⟨l1,l2,q⟩
          (try simp (maxSteps:=2000000) (disch:=omega) only [go_sem,simprocAttr,zD,zE,eOu,hsq,l1,l2,l3]);refine⟨j+1, [],by first | assumption | omega,?_,?_⟩
          ·(try simp only []);omega
          ·constructor<;>(try simp (maxSteps:=2000000) (disch:=omega) only [go_sem,simprocAttr,zD,zE,List.append_assoc])
         ·obtain rfl:j=(A k).length:=by omega
          by_cases k5:fk=5
          ·rw [if_pos k5] at sP;(try simp (maxSteps:=2000000) (disch:=omega) only [go_sem,simprocAttr,zD,zE,k5,sT]);refine⟨(k+1,g2+1), [],by first | assumption | omega,?_,?_⟩
           ·(try simp only []);omega
           ·constructor<;>(try simp (maxSteps:=2000000) (disch:=omega) only [go_sem,simprocAttr,zD,zE,ir_snoc,sA,sP,sT,eOu,k5,List.map_cons,List.map_nil,List.append_assoc])
          ·rw [if_neg k5] at sP;(try simp (maxSteps:=2000000) (disch:=omega) only [go_sem,simprocAttr,zD,zE,k5,sT]);refine⟨(k+1,g2+1), [],by first | assumption | omega,?_,?_⟩
           ·(try simp only []);omega
           ·constructor<;>(try simp (maxSteps:=2000000) (disch:=omega) only [go_sem,simprocAttr,zD,zE,ir_snoc,sA,sP,sT,eOu,List.map_cons,List.map_nil,List.append_assoc])
      ·obtain rfl:k=out.length:=by omega
       have hps:=hO.ps;have hpl:=hO.pl;have hpa:=hO.past i4;have hnd:=hO.node;have htd:=hO.td;have hSl:(S++out.filter kept).length≤1000 * (i+1):=by
        rw [←aN];have h9:=aB out.length;omega
       simp only at hps hpl hpa hnd htd;rw [aN,pN];clear aN pN aS pS aF aB a0 p0 hO;generalize evP ps out=Q at *;generalize S++out.filter kept=S' at *;cases hQ:Q with
       | nil=>
         try refine zO ?_
         refine⟨(i+1,y,S',g2,tl), [],⟨hl1,hl2,ok,hpa,hSl,⟨htl,fun e h q=>i6.2 e h (by have q':y.told < (e:Int):=q;omega)⟩⟩,(by simp only;omega),?_⟩;constructor<;>((try refine zO ?_);(try with_reducible exact True.intro))
       | cons q0 qr=>
         rw [←hQ];have hne:((Q.length:Int)==0)=false:=by rw [hQ];simp only [List.length_cons];exact beq_eq_false_iff_ne.2 (by omega)
         obtain⟨hup,hmi,htl2⟩:=hps.resolve_left (by rw [hQ];simp);have otd:=ok.td;have ote:=ok.te;have itd:=i3.td;obtain⟨tn,htn⟩:=Int.eq_ofNat_of_zero_le (show 0≤y.told by omega);have htz: ∀(h:tn < tl.length),tl[tn]=0:=fun h=>i6.2 tn h (by omega)
         obtain⟨M,hM⟩: ∃M:Nat→Bool,∀k,M k=(Q.take k).any (fun p=>p.node==y.h.node):=⟨_,fun _=>rfl⟩;have m0:M 0=false:=by rw [hM,List.take_zero];rfl
         have mS: ∀(k:Nat) (h:k < Q.length),M (k+1)=(M k || Q[k].node==y.h.node):=fun k h=>by
          rw [hM,hM,List.take_succ_eq_append_getElem h,List.any_append];simp
         have mN:M Q.length=true:=by
          obtain⟨p,h1,h2⟩:=hmi;rw [hM,List.take_length,List.any_eq_true];exact⟨p,h1,by rw [hnd,h2];simp⟩
         have uN: ∀(k:Nat) (h:k+1 < Q.length),Q[k].node < Q[k+1].node:=fun k h=>(List.pairwise_iff_getElem.1 hup) k (k+1) (by omega) h (by omega)
         clear hM;(try simp (maxSteps:=2000000) (disch:=omega) only [go_sem,simprocAttr,zD,zE,hne]);(refine walk_trim [2,3,8,9,10,11,15,20,21] trivial zL ?_;((try refine zW ?_);(try with_reducible exact True.intro)));refine qac 200 200 (fun k:Nat=>k≤Q.length)
          (fun k=>⟨228, [(2,lOps L),(3, .ptr 0 0 0 0),(8, .ptr 3 0 0 0),(9, .ref 4 g2 0 S'.length),(10, .ref 2 0 0 201),(11,sci .i64 i),(15, .ptr 7 0 0 0),(20,scb (M k)),(21,sci .i64 k)], [],8, [(7, .arr 2 0 [[lPs Q,lI path]]),(4, .arr 10 g2 (ir eOu S')),(3, .arr 28 0 [cNo y]),(2, .arr 1 0 (ir eI tl)),(0, .arr 4 0 [[sci .i64 N, .p (.imm 2 (pr eII ls)), .p (.imm 2 (pr eNd T)),scb ff]])]⟩) (fun k=>Q.length - k) (0) [] ?_ ?_ ?_
         ·simp
         ·constructor<;>(try simp (maxSteps:=2000000) (disch:=omega) only [go_sem,simprocAttr,zD,zE,Int.natCast_zero,List.take_of_length_le,List.append_assoc,m0])
         ·rintro k hk;try refine zW ?_
          by_cases lk:k < Q.length
          ·have sM:=mS k lk;cases hMk:M k;all_goals
            try refine zO ?_
            (refine zM [2,3,8,9,10,11,15,20,21] ?_;refine zI [O,O,O,O,O,O,O,O,O,O,O,O,O,O] ?_);(try simp (maxSteps:=2000000) (disch:=omega) only [go_sem,simprocAttr,zD,zE,ePc,hMk]);(refine zM [2,3,8,9,10,11,15,20,21] ?_;refine zI [O,O,O,O,O,O,O,O,O,O,O,O,O,O,O,O,O,O] ?_);rcases Nat.eq_zero_or_pos k with k0 | k0
            ·(try simp (maxSteps:=2000000) (disch:=omega) only [go_sem,simprocAttr,zD,zE,ePc]);refine⟨k+1, [],by first | assumption | omega,?_,?_⟩
             ·(try simp only []);omega
             ·constructor<;>(try simp (maxSteps:=2000000) (disch:=omega) only [go_sem,simprocAttr,zD,zE,sM,hMk,Bool.true_or,Bool.false_or,List.append_assoc])
            ·obtain⟨k',hk'⟩: ∃k':Nat,k=k'+1:=⟨k - 1,by omega⟩;have hsub:(k:Int) - 1=(k':Int):=by omega
             have hk2:k' < Q.length:=by omega
             have hlt2:Q[k'].node < Q[k].node:=by subst hk';exact uN k' lk
             (try simp (maxSteps:=2000000) (disch:=omega) only [go_sem,simprocAttr,zD,zE,ePc,hsub]);refine⟨k+1, [],by first | assumption | omega,?_,?_⟩
             ·(try simp only []);omega
             ·constructor<;>(try simp (maxSteps:=2000000) (disch:=omega) only [go_sem,simprocAttr,zD,zE,sM,hMk,Bool.true_or,Bool.false_or,List.append_assoc])
          ·obtain rfl:k=Q.length:=by omega
           have t1:1≤(tn:Int)∧(tn:Int)≤200:=by omega
           have htz':=htz (by omega);(try simp (maxSteps:=2000000) (disch:=omega) only [go_sem,simprocAttr,zD,zE,mN,htn,eI,htz']);refine⟨(i+1,y,S',g2,tl.set tn 1), [],⟨hl1,hl2,ok,hpa,hSl,⟨by simp only [List.length_set];exact htl,fun e h q=>?_⟩⟩,(by simp only;omega),?_⟩
           ·have q':y.told < (e:Int):=q;simp only [List.length_set] at h;simp only;rw [List.getElem_set_ne (by omega)];exact i6.2 e h (by omega)
           constructor<;>(try simp (maxSteps:=2000000) (disch:=omega) only [go_sem,simprocAttr,zD,zE,htn,eI])
   ·rcases Nat.lt_or_ge i L.length with hl | hl;all_goals
     try refine zO ?_
     (refine zG ?_;refine callA_of (qbQ) zB ?_;try refine zW ?_);((try refine zO ?_);(try with_reducible exact True.intro))
 ·have eH:=qaf hH;(try simp (maxSteps:=2000000) (disch:=omega) only [go_sem,simprocAttr,zD,zE,eH]);(refine zG ?_;refine callA_of (qbQ) zB ?_;try refine zW ?_);((try refine zO ?_);(try with_reducible exact True.intro))
end Go.Proofs.NO
/- The law NodeOnce is proved: whatever is handed in, it answers true, and what is handed in reads as it did. No condition beyond the given statement's own. -/
namespace Go.Proofs.YtfhhdgkhajkapaaGreat
open Go Go.Idl Go.Proofs Go.Proofs.Tryz
set_option maxRecDepth 100000
open Go.ChangeShapes Go.WideShapes Go.ChangeAt Go.RowKit
theorem qkK (os:Os) (H:Type) (enc:TypeId × Value→H): ∃(w:World) (tape:Tape) (i:Input),w.os=os∧(w.forCall tape i).Shaped Tryz.checked.prog∧i.vars= []∧Input.okWide Tryz.checked.prog (w.forCall tape i) .any w.heap.size 4 i∧
   Rows.nodeOnceSpec.pre6 enc Tryz.checked.prog Tryz.f4 [] false (w.forCall tape i).memory i.args∧({}:Assume).holds Tryz.checked.prog (lone (Frame.enter Tryz.checked.prog 4 i.args .normal) [] (w.forCall tape i)):=
 ChangeSpec.witness6 (enc:=enc) (C:=Tryz.checked) false ⟨#[],#[.agg #[.int .i64 0, .slice O 0 0, .slice O 0 0, .bool false], .int .i64 0, .slice O 0 0], []⟩ 8 (by kernel_rfl) (by kernel_rfl) (by kernel_rfl) (by kernel_rfl)
theorem NodeOnce_holds:Rows.NodeOnceSaid:=
 OpenClaim.holds_of_wide 4 Tryz.f4 rfl rfl rfl rfl rfl rfl rfl ⟨rfl,rfl,rfl,rfl,rfl⟩ rfl rfl rfl rfl rfl (by kernel_rfl) func4 qiy
  (of_decide_eq_true (by kernel_rfl)) (by unfold Func.isWrapper;rw [if_neg (by decide+kernel)];exact⟨rfl,rfl⟩)
  (fun os started H enc _=>qe7 (C:=Tryz.checked) (s:=Rows.nodeOnceSpec) started Tryz.own (by kernel_rfl) func4
   (qkK os H enc)
   Tryz.laidOut (tb:=4) (by kernel_rfl) Tryz.underlying4 (by kernel_rfl) rfl (fun ds h=>match ds,h with | [_,_,_],_=>rfl)
   (argsOpen_cons qlB (fun _=>agg (by kernel_rfl)) (argsOpen_cons qaY (fun _=>one (by kernel_rfl)) (argsOpen_cons qlC (fun _=>one (by kernel_rfl)) (qdQ))))
   fun⟨a,n,l,_⟩ _=>NO.NodeOnce_pure a n l)
end Go.Proofs.YtfhhdgkhajkapaaGreat
