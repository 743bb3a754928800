/- Facts that the proofs of this claim lean on. -/
import Derived.Test.YtfhhdgkhajkapaaGreatGPm
import Derived.Test.YtfhhdgkhajkapaaGreatNTypes
import Derived.Test.YtfhhdgkhajkapaaGreatIdNl
set_option linter.unusedSimpArgs false
set_option linter.unusedVariables false
/-
 Regions that draw their order, order by order: for those whose operations do not leave each other alone.
-/
namespace Go.Idl
variable {P:Program} {h0:IH}
inductive OT where
 | leaf
 | node (bs:List (Nat × OT))
def oidx:List (Nat × OT)→List Nat
 | []=> []
 | b::r=>b.1::oidx r
def lbeq:List Nat→List Nat→Bool
 | [], []=>true
 | a::r,b::s=>Nat.beq a b && lbeq r s
 | _,_=>false
theorem qgj: ∀ {l k:List Nat},lbeq l k=true→l=k
 | [], [],_=>rfl
 | a::r,b::s,h=>by
   simp only [lbeq,Bool.and_eq_true] at h
   rw [Nat.eq_of_beq_eq_true h.1,qgj h.2]
 | [],_::_,h=>by cases h
 | _::_, [],h=>by cases h
mutual
def OT.all (ops:Array Oper):OT→Nat→Array Bool→Bool
 | .leaf,_,listed=>lbeq (Region.ready .any ops listed) []
 | .node bs,f+1,listed=>lbeq (oidx bs) (Region.ready .any ops listed) && !(bs.isEmpty) && OT.alls ops bs f listed
 | .node _,0,_=>false
def OT.alls (ops:Array Oper):List (Nat × OT)→Nat→Array Bool→Bool
 | [],_,_=>true
 | (i,t)::r,f,listed=>OT.all ops t f (listed.setIfInBounds i true) && OT.alls ops r f listed
end
def oStep (K:qaa→Prop) (o:Oper) (N:Nat) (s:List (Nat × IV)) (d:List IDef) (nx:Nat) (l:List (Nat × IBlk)) (x:Option FR):Prop:=
 qaq x (fun fr=>if dOk N o.dst then K ⟨N,putS o.dst fr.x s,d,nx+fr.F.length,fr.W.reverse++l⟩ else False) False
def qfW (P:Program) (h0:IH) (all:Array Oper) (K:qaa→Prop) (o:Oper) (N:Nat) (s:List (Nat × IV)) (d:List IDef) (nx:Nat) (l:List (Nat × IBlk)) (x:Option Bool):Prop:=
 qaq x (fun b=>qbt b (oStep K o N s d nx l (fop P (ev s) (look (l++h0.m)) nx all o.dst o.op)) (if dOk N o.dst then K ⟨N,putS o.dst (.tup []) s,d,nx,l⟩ else False)) False
def oOne (P:Program) (h0:IH) (all:Array Oper) (K:qaa→Prop) (o:Option Oper) (S:qaa):Prop:=
 qaq o (fun o=>qfW P h0 all K o S.n S.s S.d S.nx S.l (qai all S.s o)) False
mutual
def qcB (P:Program) (h0:IH) (all:Array Oper) (fin:qaa→Prop):OT→qaa→Prop
 | .leaf,S=>fin S
 | .node bs,S=>qcy P h0 all fin bs S
def qcy (P:Program) (h0:IH) (all:Array Oper) (fin:qaa→Prop):List (Nat × OT)→qaa→Prop
 | [],_=>True
 | (i,t)::r,S=>oOne P h0 all (fun S'=>qcB P h0 all fin t S') all[i]? S∧qcy P h0 all fin r S
end
theorem otrees_mem {all:Array Oper} {fin:qaa→Prop}: ∀ {bs:List (Nat × OT)} {S:qaa},qcy P h0 all fin bs S→ ∀b∈bs,oOne P h0 all (fun S'=>qcB P h0 all fin b.2 S') all[b.1]? S
 | (i,t)::r,S,h,b,hb=>by
   rw [qcy] at h
   rcases List.mem_cons.1 hb with rfl | hb
   ·exact h.1
   ·exact otrees_mem h.2 b hb
theorem alls_mem {ops:Array Oper} {f:Nat} {listed:Array Bool}: ∀ {bs:List (Nat × OT)},OT.alls ops bs f listed=true→ ∀b∈bs,OT.all ops b.2 f (listed.setIfInBounds b.1 true)=true
 | (i,t)::r,h,b,hb=>by
   rw [OT.alls,Bool.and_eq_true] at h
   rcases List.mem_cons.1 hb with rfl | hb
   ·exact h.1
   ·exact alls_mem h.2 b hb
theorem oidx_mem: ∀ {bs:List (Nat × OT)} {i:Nat},i∈oidx bs→ ∃t,(i,t)∈bs
 | (j,t)::r,i,h=>by
   rw [oidx] at h
   rcases List.mem_cons.1 h with rfl | h
   ·exact⟨t,List.mem_cons_self ..⟩
   ·obtain⟨t,ht⟩:=oidx_mem h
    exact⟨t,List.mem_cons_of_mem _ ht⟩
theorem qrT {all:Array Oper} {K:qaa→Prop} {i:Nat} {S:qaa} {M0 M:Mem} {a:Act} {Q:Exit→Act→World→Prop} {ro:Option Nat} (hro:RoOk ro (all.toList.all ndOp)) (h:oOne P h0 all K all[i]? S) (hs:qae M0 M) (hr:SRel h0 S M a):
  wpOpIn (Wd ro) 0 P all Q i (fun a' w'=> ∃M' S',M'.w=w'∧qae M0 M'∧SRel h0 S' M' a'∧K S') a M.w:=by
 refine qkf (fun o' ho'=>hro.mem (List.mem_of_getElem? (by simpa using ho'))) ?_
 cases ho:all[i]? with
 | none=>rw [ho] at h;exact h.elim
 | some o=>
   rw [ho] at h
   simp only [oOne,qaj,qfW] at h
   cases hw:qai all S.s o with
   | none=>rw [hw] at h;exact h.elim
   | some b=>
     rw [hw,qaj] at h
     simp only
     rw [qa4 hr hw]
     cases b with
     | true=>
       simp only [qbt,if_true] at h ⊢
       unfold oStep at h
       cases hf:fop P (ev S.s) (look (S.l++h0.m)) S.nx all o.dst o.op with
       | none=>rw [hf] at h;exact h.elim
       | some fr=>
         rw [hf,qaj] at h
         split at h
         ·rename_i hd
          have hd':qaE S o.dst=true:=by cases hq:o.dst<;>simp_all [dOk,qaE]
          obtain⟨hdo,hfit⟩:=fop_sound hf
          refine(hdo M a hr.heap.rel (fun p hp=>by rw [hr.heap.G];exact hfit.reads p hp) (fun b hb=>?_) (fun y _ z hz=>qaH hr.slot hz) _ _ fun v M' st rel hH hv=>?_)
          ·rcases hfit.new with ⟨hF,_⟩ | ⟨hF,_⟩
           ·rw [hF] at hb;cases hb
           ·rw [hF] at hb
            simp only [List.mem_cons,List.not_mem_nil,or_false] at hb
            subst hb
            exact fun hb=>Nat.lt_irrefl _ (hr.heap.A _ hb)
          ·refine⟨M',_,rfl,hs.trans st,?_,h⟩
           rw [←qaT]
           refine hr.step st hd' hv ?_
           have:=hr.heap.upd rel hH (S.nx+fr.F.length) (fits_dom hr.heap hfit)
           rw [List.append_assoc]
           exact this
         ·exact h.elim
     | false=>
       simp only [qbt,Bool.false_eq_true,if_false] at h ⊢
       split at h
       ·rename_i hd
        have hd':qaE S o.dst=true:=by cases hq:o.dst<;>simp_all [dOk,qaE]
        refine⟨M,_,rfl,hs,?_,h⟩
        rw [show(⟨S.n,putS o.dst (.tup []) S.s,S.d,S.nx,S.l⟩:qaa)=S.put o.dst (.tup []) S.nx [] by rw [qaT];rfl]
        exact hr.step (.refl M) hd' (qin M) hr.heap
       ·exact h.elim
theorem qq3 {all:Array Oper} {fin:qaa→Prop} {Q:Exit→Act→World→Prop} {M0:Mem} {ro:Option Nat} (hro:RoOk ro (all.toList.all ndOp)) (hQ: ∀M a S,qae M0 M→SRel h0 S M a→fin S→Q .normal a M.w):
  ∀(f:Nat) (t:OT) (listed:Array Bool) (S:qaa) (M:Mem) (a:Act),t.all all f listed=true→qcB P h0 all fin t S→qae M0 M→SRel h0 S M a→wpAnyIn (Wd ro) 0 P .any all Q f listed a M.w:=by
 intro f
 induction f with
 | zero=>
   intro t listed S M a hc h hs hr
   cases t with
   | leaf=>
     rw [OT.all] at hc
     rw [qcB] at h
     exact⟨qgj hc,hQ M a S hs hr h⟩
   | node bs=>rw [OT.all] at hc;cases hc
 | succ f ih=>
   intro t listed S M a hc h hs hr
   cases t with
   | leaf=>
     rw [OT.all] at hc
     rw [qcB] at h
     have e:=qgj hc
     exact⟨fun _=>hQ M a S hs hr h,fun i hi=>by rw [e] at hi;cases hi⟩
   | node bs=>
     rw [OT.all,Bool.and_eq_true,Bool.and_eq_true] at hc
     rw [qcB] at h
     obtain⟨⟨c1,c2⟩,c3⟩:=hc
     have e:=qgj c1
     refine⟨fun hn=>?_,fun i hi=>?_⟩
     ·rw [hn] at e
      cases bs with
      | nil=>simp at c2
      | cons b r=>rw [oidx] at e;cases e
     ·rw [←e] at hi
      obtain⟨t,ht⟩:=oidx_mem hi
      refine wpOpIn_mono ?_ (qrT hro (otrees_mem h _ ht) hs hr)
      rintro a' w' ⟨M',S',rfl,s',r',k'⟩
      exact ih t _ S' M' a' (alls_mem c3 _ ht) k' s' r'
def cutP (h0:IH) (ids:List Nat) (S S':qaa):Prop:=
 S'.n=S.n∧S'.d=S.d∧(S.d= []∨S'.nx=S.nx)∧h0.nx≤S'.nx∧S'.nx≤S.nx∧fslotsIn S h0.m ids S'.nx S'.s∧fblksIn S h0.m ids S'.nx S'.l∧qgp h0.nx S'.l S.l∧gone h0.nx S'.l ids
def unblk:List It→List It
 | .blk _::k=>unblk k
 | k=>k
theorem qhX {S:qaa} {Q:Exit→qaa→Prop}: ∀ {k:List It},IRun P h0 (unblk k) S Q→IRun P h0 k S Q
 | [],h=>h
 | .blk _::k,h=>qgZ (qhX (k:=k) h)
 | .code _::_,h=>h
 | .ops _ _::_,h=>h
section
variable {K:qaa→Prop} {all:Array Oper} {dst:Option Tmp} {op:Op} {ty:TypeId} {pos:String} {aft:Array Edge} {N:Nat} {s:List (Nat × IV)} {d:List IDef} {nx:Nat} {l:List (Nat × IBlk)} {fin:qaa→Prop} {S:qaa}
theorem qoN {o o':Option Oper} (h:o=o'):oOne P h0 all K o S=oOne P h0 all K o' S:=by rw [h]
theorem qnc {o:Oper} {x x':Option FR} (h:x=x'):oStep K o N s d nx l x=oStep K o N s d nx l x':=by rw [h]
theorem qlx {o:Oper} {x x':Option Bool} (h:x=x'):qfW P h0 all K o N s d nx l x=qfW P h0 all K o N s d nx l x':=by rw [h]
attribute [congr] qoN qnc qlx
attribute [go_sem] cutP
end
end Go.Idl
/- Which graphs may be. -/
namespace Go.Proofs.NO
open Go Go.Idl Go.Proofs Go.GP Go.Proofs.Tryz
set_option maxHeartbeats 20000000
set_option maxRecDepth 100000
end Go.Proofs.NO
/- Which tables may be: what is asked of a state. No program in sight. -/
namespace Go.Proofs.NO
open Go Go.Idl Go.GP
noncomputable def tB (P:Prop):Bool:= @decide P (Classical.propDecidable P)
theorem qp3 {P:Prop}:tB P=true↔P:= @decide_eq_true_iff P (Classical.propDecidable P)
theorem qal {P:Prop} (h:P):tB P=true:=qp3.2 h
theorem qaf {P:Prop} (h: ¬P):tB P=false:=Bool.eq_false_iff.2 fun q=>h (qp3.1 q)
theorem qf5 {P:Prop} [Decidable P]:tB P=decide P:=by
 by_cases h:P
 ·rw [qal h];simp [h]
 ·rw [qaf h];simp [h]
theorem ql0 {P:Prop}:(!tB P)=tB (¬P):=by
 by_cases h:P
 ·rw [qal h,qaf (fun q=>q h)];rfl
 ·rw [qaf h,qal h];rfl
theorem qcj {P R:Prop} (h:P↔R):tB P=tB R:=by rw [propext h]
def LetP (n:Int):Prop:=0≤n∧n < 4
def StaP (m:Nat) (n:Int):Prop:=0≤n∧n < m
def qft (ls:List (Int × Int)) (n:Int) (s:St):Prop:=
 (s.mode≠2∧s.waits.length=0)∨(s.mode=2∧0 < s.waits.length∧ ∀(j:Nat) (w:Int),s.waits[j]? =some w→(w,n)∈ls∧ ∀v,0 < j→s.waits[j - 1]? =some v→v < w)
def qkU (ls:List (Int × Int)) (n:Int) (l:List (Int × Int)):Prop:= ∀(j:Nat) (x:Int × Int),l[j]? =some x→(n,x.1)∈ls∧LetP x.2
def qfr (ls:List (Int × Int)) (n:Int) (m:Nat) (s:St):Prop:=
 s.picks.length≤4∧(s.mode=1∨s.picks.length=0)∧ ∀(j:Nat) (p:Int × List (Int × Int)),s.picks[j]? =some p→StaP m p.1∧p.2.length≤4∧qkU ls n p.2
def Once (l:List (Int × Int × Int)) (t:Int × Int × Int):Prop:= ∀(k:Nat) (u:Int × Int × Int),l[k]? =some u→ ¬(u.1=t.1∧u.2.1=t.2.1)
def qpe (ls:List (Int × Int)) (n:Int) (m:Nat) (s:St):Prop:=
 ∀(j:Nat) (t:Int × Int × Int),s.takes[j]? =some t→(t.1,n)∈ls∧LetP t.2.1∧StaP m t.2.2∧Once (s.takes.take j) t
def KeptP (ss:List St) (s:St) (t:Int × Int × Int):Prop:= ∀(j:Nat) (w:Int),s.waits[j]? =some w→w≠t.1→ ∀to,ss[t.2.2.toNat]? =some to→to.mode=2∧w∈to.waits
def qpc (ss:List St) (s:St):Prop:= ∀(j:Nat) (t:Int × Int × Int),s.takes[j]? =some t→KeptP ss s t
def qn7 (s:St):Prop:=0≤s.mode∧s.mode < 3
def MayP (ls:List (Int × Int)) (n:Int) (ss:List St) (s:St):Prop:=qn7 s∧qft ls n s∧qfr ls n ss.length s∧qpe ls n ss.length s∧qpc ss s
def qoi (ls:List (Int × Int)) (n:Int) (x:Nd):Prop:=
 1≤x.states.length∧x.states.length≤8∧StaP x.states.length x.start∧ ∀(j:Nat) (s:St),x.states[j]? =some s→MayP ls n x.states s
def TabP (N:Int) (ls:List (Int × Int)) (T:List Nd):Prop:=qcV N ls∧(T.length:Int)=N∧ ∀(n:Nat) (x:Nd),T[n]? =some x→qoi ls n x
theorem qa0 {α:Type} {l:List α} {P:Nat→α→Prop} {i:Nat} (hi:i < l.length) (h: ∀j x,j < i→l[j]? =some x→P j x) (hx:P i l[i]): ∀j x,j < i+1→l[j]? =some x→P j x:=by
 intro j x hj e
 rcases Nat.lt_or_ge j i with q | q
 ·exact h j x q e
 ·obtain rfl:j=i:=by omega
  rw [List.getElem?_eq_getElem hi] at e
  cases e;exact hx
theorem all_end {α:Type} {l:List α} {P:Nat→α→Prop} (h: ∀j x,j < l.length→l[j]? =some x→P j x): ∀j x,l[j]? =some x→P j x:=
 fun j x e=>h j x (List.getElem?_eq_some_iff.1 e).1 e
end Go.Proofs.NO
/- Tables: a state's waits, picks, and takes. -/
namespace Go.Proofs.NO
open Go Go.Idl Go.Proofs Go.GP Go.Proofs.Tryz
set_option maxHeartbeats 20000000
set_option maxRecDepth 100000
variable (s:St) (n st:Int) (ss:List St) (N:Int) (ls:List (Int × Int)) (hl:ls.length≤1000000)
end Go.Proofs.NO
/- Tables: what a state waits for, picks, and takes. -/
namespace Go.Proofs.NO
open Go Go.Idl Go.Proofs Go.GP Go.Proofs.Tryz
set_option maxHeartbeats 20000000
set_option maxRecDepth 100000
def qa9 {α:Type} (f:α→Bool):Nat→List α→Int
 | _, []=> -1
 | i,x::r=>if f x=true then i else qa9 f (i+1) r
theorem qdz {α:Type} {f:α→Bool}: ∀ {l:List α} {i:Nat},0≤qa9 f i l↔ ∃x∈l,f x=true
 | [],i=>by simp [qa9]
 | x::r,i=>by
   unfold qa9
   split
   ·rename_i e;simp [e]
   ·rename_i e;rw [qdz];simp [e]
variable (s:St) (n st:Int) (ss:List St) (N:Int) (ls:List (Int × Int)) (hl:ls.length≤1000000)
end Go.Proofs.NO
/- Tables: what a state picks and takes, and what stays. -/
namespace Go.Proofs.NO
open Go Go.Idl Go.Proofs Go.GP Go.Proofs.Tryz
set_option maxHeartbeats 20000000
set_option maxRecDepth 100000
variable (s:St) (n st:Int) (ss:List St) (N:Int) (ls:List (Int × Int)) (hl:ls.length≤1000000)
end Go.Proofs.NO
/- Tables: what stays; which states may be; which tables may be. -/
namespace Go.Proofs.NO
open Go Go.Idl Go.Proofs Go.GP Go.Proofs.Tryz
set_option maxHeartbeats 20000000
set_option maxRecDepth 100000
variable (s:St) (n st:Int) (ss:List St) (N:Int) (ls:List (Int × Int)) (hl:ls.length≤1000000)
def qrn (s:St):Prop:=s.waits.length≤1000000∧s.picks.length≤1000000∧s.takes.length≤1000000
end Go.Proofs.NO
/- Which tables may be. -/
namespace Go.Proofs.NO
open Go Go.Idl Go.Proofs Go.GP Go.Proofs.Tryz
set_option maxHeartbeats 20000000
set_option maxRecDepth 100000
def qdP (T:List Nd):Prop:=T.length≤1000000∧ ∀(n:Nat) (x:Nd),T[n]? =some x→x.states.length≤1000000∧ ∀(j:Nat) (s:St),x.states[j]? =some s→qrn s
end Go.Proofs.NO
/- What the cut leaves is small. -/
namespace Go.Proofs.NO
open Go Go.Idl Go.Proofs Go.GP Go.Proofs.Tryz
theorem qqR (n:Nd):OkNd (qeT n):=by
 refine⟨by simp only [qeT,List.length_map,List.length_take];omega,fun s hs=>?_⟩
 obtain⟨t,_,rfl⟩:=List.mem_map.1 hs
 refine⟨?_,?_,fun p hp=>?_,?_⟩
 ·simp only [qd7,List.length_take];omega
 ·simp only [qd7,List.length_map,List.length_take];omega
 ·obtain⟨q,_,rfl⟩:=List.mem_map.1 hp
  simp only [cutP,List.length_take];omega
 ·simp only [qd7,List.length_take];omega
theorem qly (s:Sc):(cutSc s).T.length≤8∧(cutSc s).ls.length≤1000000∧ ∀n∈(cutSc s).T,OkNd n:=by
 refine⟨by simp only [cutSc,List.length_map,List.length_take];omega,by simp only [cutSc,List.length_take];omega,fun n hn=>?_⟩
 obtain⟨m,_,rfl⟩:=List.mem_map.1 hn
 exact qqR m
theorem qg4 {T:List Nd} (h8:T.length≤8) (h: ∀n∈T,OkNd n):qdP T:=by
 refine⟨by omega,fun n x hx=>?_⟩
 obtain⟨a,b⟩:=h x (List.mem_of_getElem? hx)
 refine⟨by omega,fun j s hs=>?_⟩
 obtain⟨c1,c2,c3,c4⟩:=b s (List.mem_of_getElem? hs)
 exact⟨by omega,by omega,by omega⟩
end Go.Proofs.NO
/- Pieces cut and handed to the document. -/
namespace Go.Proofs.NO
open Go Go.Idl Go.Proofs Go.Proofs.Tryz
set_option maxHeartbeats 20000000
set_option maxRecDepth 100000
structure Pc where
 node:Int
 state:Int
 steps:Int
 sent:List Int
 inn:List (List (Int × Int))
 out:List (List Int)
def eMs (l:List (Int × Int)):List PV:= [.imm 2 (pr eII l)]
def eLs (l:List Int):List PV:= [.imm 1 (pr eI l)]
def ePc (p:Pc):List PV:= [.sc (.int .i64 p.node), .sc (.int .i64 p.state), .sc (.int .i64 p.steps), .imm 1 (pr eI p.sent), .imm 1 (pr eMs p.inn), .imm 1 (pr eLs p.out)]
abbrev lMs (l:List (List (Int × Int))):IV:= .p (.imm 1 (pr eMs l))
abbrev lLs (l:List (List Int)):IV:= .p (.imm 1 (pr eLs l))
abbrev lPc (p:Pc):IV:= .agg [sci .i64 p.node,sci .i64 p.state,sci .i64 p.steps,lI p.sent,lMs p.inn,lLs p.out]
abbrev lPs (l:List Pc):IV:= .p (.imm 6 (pr ePc l))
def qeU (p:Pc):Pc:=⟨p.node,p.state,p.steps,p.sent.take 7,(p.inn.take 7).map (·.take 20),(p.out.take 7).map (·.take 20)⟩
theorem mn7 (n:Nat):(if(7:Int) < (n:Int) then(7:Int) else(n:Int))=((min n 7:Nat):Int):=by split<;>omega
theorem mn20 (n:Nat):(if(20:Int) < (n:Int) then(20:Int) else(n:Int))=((min n 20:Nat):Int):=by split<;>omega
theorem qeM (p:Pc):Pure prog 88 [lPc p] (lPc p):=by
 refine pcall0 200 (fn:=f88) func88 rfl (by simp [ntmps88]) zB zB fun hs=>?_
 (repeat(first | ((refine zW ?_;try with_reducible exact True.intro))))
theorem qn3 (p:Pc):Pure prog 107 [lPc p] (lPc (qeU p)):=by
 obtain⟨node,state,steps,sent,inn,out⟩:=p
 refine pcall0 200 (fn:=f107) func107 rfl (by simp [ntmps107]) zB zB fun hs=>?_
 try refine zW ?_
 (refine zM [1,2,75] ?_;refine zI [none,none,none,none,none,none,some [0,1,2,3,4,5,7,8,9,10,11,12,13,16],none,none,none,none,none,none,none,some [0,1,2,3,4,5,16],none,some [0,1,2,3,4,5,6,7,8,9,10,11,12,13,14,15],some []] ?_)
 (try simp (maxSteps:=2000000) (disch:=omega) only [go_sem,simprocAttr,if_pos,if_neg,w64,beqT,beqF,bneT,bneF,qat,qap,decide_eq_true,decide_eq_false,mn7,Nat.sub_zero,List.drop_zero,tk_min,tk_len])
 refine walk_ownB 3 0 4 1 trivial rfl rfl rfl (.inr rfl) ?_
 simp only [List.set_cons_zero,List.set_cons_succ,Nat.reduceAdd]
 (refine walk_trim [1,2,3,4,75] trivial zL ?_;((try refine zW ?_);(try with_reducible exact True.intro)))
 refine qac 200 200 (fun i:Nat × Nat × List (List (Int × Int))=>i.1≤inn.length∧i.1≤7∧i.2.2=(inn.take i.1).map (·.take 20))
  (fun i=>⟨85, [(1, .ptr 0 0 0 0),(2, .ptr 1 0 0 0),(3, .ptr 3 0 0 0),(4,sci .i64 i.1)], [],5,
   [(4, .arr 1 i.2.1 (ir eMs i.2.2)),(3, .arr 6 0 [[sci .i64 node,sci .i64 state,sci .i64 steps,lI (sent.take 7), .ref 4 i.2.1 0 i.2.2.length, .p (.sc (.slice none 0 0))]]),
    (1, .arr 6 0 [[sci .i64 0,sci .i64 0,sci .i64 0, .p (.sc (.slice none 0 0)), .p (.sc (.slice none 0 0)), .p (.sc (.slice none 0 0))]]),
    (0, .arr 6 0 [[sci .i64 node,sci .i64 state,sci .i64 steps,lI sent,lMs inn,lLs out]])]⟩) (fun i=>7 - i.1) (0,0, []) [2] ?_ ?_ ?_
 ·simp
 ·constructor<;>(try simp (maxSteps:=2000000) (disch:=omega) only [go_sem,simprocAttr,if_pos,if_neg,w64,beqT,beqF,bneT,bneF,qat,qap,decide_eq_true,decide_eq_false,Int.natCast_zero,tk_self])
 ·rintro⟨i,g,acc⟩ ⟨h1,h2,h3⟩
  simp only at h1 h2 h3
  have hal:acc.length=i:=by rw [h3];simp;omega
  try refine zW ?_
  by_cases hlt:i < inn.length∧i < 7
  ·obtain⟨hl,h7⟩:=hlt
   (try simp (maxSteps:=2000000) (disch:=omega) only [go_sem,simprocAttr,if_pos,if_neg,w64,beqT,beqF,bneT,bneF,qat,qap,decide_eq_true,decide_eq_false,eMs])
   (refine zM [1,2,3,4,75] ?_;refine zI [none,none,some [0,1,3,4,5,6,7,8,9,10,11,12,13,14,15],none,none,none,none,none,none,none,none,none,none,none,none,none,some [0,1],some [0,1],some [],none,some []] ?_)
   (try simp (maxSteps:=2000000) (disch:=omega) only [go_sem,simprocAttr,if_pos,if_neg,w64,beqT,beqF,bneT,bneF,qat,qap,decide_eq_true,decide_eq_false,mn20,Nat.sub_zero,List.drop_zero,tk_min,tk_len,eMs])
   refine⟨(i+1,g+1,acc++ [inn[i].take 20]), [5],⟨hl,h7,?_⟩,?_,?_⟩
   ·simp only [h3]
    rw [List.take_succ_eq_append_getElem hl,List.map_append,List.map_cons,List.map_nil]
   ·simp only;omega
   ·constructor<;>(try simp (maxSteps:=2000000) (disch:=omega) only [go_sem,simprocAttr,if_pos,if_neg,w64,beqT,beqF,bneT,bneF,qat,qap,decide_eq_true,decide_eq_false,tk_self,eMs,ir_snoc,List.map_cons,List.map_nil])
  ·have h7:inn.take i=inn.take 7:=by
    rcases Nat.lt_or_ge i 7 with h | h
    ·rw [List.take_of_length_le (by omega),List.take_of_length_le (by omega)]
    ·rw [show i=7 by omega]
   rw [h7] at h3
   rcases Nat.lt_or_ge i inn.length with hl | hl
   all_goals
    try refine zO ?_
    refine walk_ownB 3 0 5 1 trivial rfl rfl rfl (.inr rfl) ?_
    simp only [List.set_cons_zero,List.set_cons_succ,Nat.reduceAdd]
    (refine walk_trim [1,2,3,5,75] trivial zL ?_;((try refine zW ?_);(try with_reducible exact True.intro)))
    refine qac 200 200 (fun j:Nat × Nat × List (List Int)=>j.1≤out.length∧j.1≤7∧j.2.2=(out.take j.1).map (·.take 20))
     (fun j=>⟨85, [(1, .ptr 0 0 0 0),(2, .ptr 1 0 0 0),(3, .ptr 3 0 0 0),(5,sci .i64 j.1)], [],6,
      [(5, .arr 1 j.2.1 (ir eLs j.2.2)),(3, .arr 6 0 [[sci .i64 node,sci .i64 state,sci .i64 steps,lI (sent.take 7),lMs acc, .ref 5 j.2.1 0 j.2.2.length]]),
       (1, .arr 6 0 [[sci .i64 0,sci .i64 0,sci .i64 0, .p (.sc (.slice none 0 0)), .p (.sc (.slice none 0 0)), .p (.sc (.slice none 0 0))]]),
       (0, .arr 6 0 [[sci .i64 node,sci .i64 state,sci .i64 steps,lI sent,lMs inn,lLs out]])]⟩) (fun j=>7 - j.1) (0,0, []) [4] ?_ ?_ ?_
    ·simp
    ·constructor<;>(try simp (maxSteps:=2000000) (disch:=omega) only [go_sem,simprocAttr,if_pos,if_neg,w64,beqT,beqF,bneT,bneF,qat,qap,decide_eq_true,decide_eq_false,Int.natCast_zero,List.take_zero])
    ·clear hl hlt hal h1 h2 h7
     rintro⟨j,g2,acc2⟩ ⟨k1,k2,k3⟩
     simp only at k1 k2 k3
     have hal2:acc2.length=j:=by rw [k3];simp;omega
     try refine zW ?_
     by_cases hlt:j < out.length∧j < 7
     ·obtain⟨hl,hj7⟩:=hlt
      (try simp (maxSteps:=2000000) (disch:=omega) only [go_sem,simprocAttr,if_pos,if_neg,w64,beqT,beqF,bneT,bneF,qat,qap,decide_eq_true,decide_eq_false,eLs])
      (refine zM [1,2,3,5] ?_;refine zI [none,none,some [0,1,3,4,5,6,7,8,9,10,11,12,13,14,15],none,none,none,none,none,none,none,none,none,none,none,none,none,some [0,1],some [0,1],some [],none,some []] ?_)
      (try simp (maxSteps:=2000000) (disch:=omega) only [go_sem,simprocAttr,if_pos,if_neg,w64,beqT,beqF,bneT,bneF,qat,qap,decide_eq_true,decide_eq_false,mn20,Nat.sub_zero,List.drop_zero,tk_min,tk_len,eLs])
      refine⟨(j+1,g2+1,acc2++ [out[j].take 20]), [6],⟨hl,hj7,?_⟩,?_,?_⟩
      ·simp only [k3]
       rw [List.take_succ_eq_append_getElem hl,List.map_append,List.map_cons,List.map_nil]
      ·simp only;omega
      ·constructor<;>(try simp (maxSteps:=2000000) (disch:=omega) only [go_sem,simprocAttr,if_pos,if_neg,w64,beqT,beqF,bneT,bneF,qat,qap,decide_eq_true,decide_eq_false,tk_self,eLs,ir_snoc,List.map_cons,List.map_nil])
     ·have hj7:out.take j=out.take 7:=by
       rcases Nat.lt_or_ge j 7 with h | h
       ·rw [List.take_of_length_le (by omega),List.take_of_length_le (by omega)]
       ·rw [show j=7 by omega]
      rw [hj7] at k3
      rcases Nat.lt_or_ge j out.length with hl | hl
      all_goals
       (try simp (maxSteps:=2000000) (disch:=omega) only [go_sem,simprocAttr,if_pos,if_neg,w64,beqT,beqF,bneT,bneF,qat,qap,decide_eq_true,decide_eq_false,h3,k3,qeU])
theorem qcK (a b:List Int):Pure prog 118 [lI a,lI b] (scb (a==b)):=by
 refine pcall0 200 (fn:=f118) func118 rfl (by simp [ntmps118]) zB zB fun hs=>?_
 simp only [go_sem,simprocAttr,maxLen] at hs
 obtain⟨⟨ha, -⟩,hb, -⟩:=hs
 try refine zW ?_
 by_cases hn:a.length=b.length
 ·try refine zO ?_
  refine qan 200 200 (fun i:Nat=>i≤a.length∧a.take i=b.take i) (fun i=>⟨26, [(0,lI a),(1,lI b),(5,sci .i64 i)], [],0, []⟩) (fun i=>a.length - i) 0 ?_ ?_ ?_
  ·simp
  ·constructor<;>(try simp only [go_sem,simprocAttr,Int.natCast_zero])
  ·rintro i ⟨hi,he⟩
   try refine zW ?_
   by_cases hb:i < a.length
   ·try refine zO ?_
    (refine zM [0,1,5] ?_;refine zI [none,none,none,none,none,none,none,none,none] ?_)
    (try simp (disch:=omega) only [go_sem,simprocAttr,if_pos,if_neg,w64,beqT,beqF,bneT,bneF,qat,qap,decide_eq_true,decide_eq_false,eI])
    by_cases hc:a[i]=b[i]
    ·try refine zO ?_
     refine⟨i+1,⟨hb,?_⟩,by omega,?_⟩
     ·rw [List.take_succ_eq_append_getElem hb,List.take_succ_eq_append_getElem (by omega),he,hc]
     ·constructor<;>((try refine zW ?_);(try with_reducible exact True.intro))
    ·try refine zO ?_
     symm
     rw [beq_eq_false_iff_ne]
     rintro rfl
     exact hc rfl
   ·try refine zO ?_
    obtain rfl:i=a.length:=by omega
    rw [List.take_length,hn,List.take_length] at he
    simp [he]
 ·try refine zO ?_
  symm
  rw [beq_eq_false_iff_ne]
  rintro rfl
  exact hn rfl
theorem Msgs_spec (a b:List (Int × Int)):Pure prog 154 [lII a,lII b] (scb (a==b)):=by
 refine pcall0 200 (fn:=f154) func154 rfl (by simp [ntmps154]) zB zB fun hs=>?_
 simp only [go_sem,simprocAttr,maxLen] at hs
 obtain⟨⟨ha, -⟩,hb, -⟩:=hs
 try refine zW ?_
 by_cases hn:a.length=b.length
 ·try refine zO ?_
  refine qan 200 200 (fun i:Nat=>i≤a.length∧a.take i=b.take i) (fun i=>⟨26, [(0,lII a),(1,lII b),(5,sci .i64 i)], [],0, []⟩) (fun i=>a.length - i) 0 ?_ ?_ ?_
  ·simp
  ·constructor<;>(try simp only [go_sem,simprocAttr,Int.natCast_zero])
  ·rintro i ⟨hi,he⟩
   try refine zW ?_
   by_cases hb:i < a.length
   ·try refine zO ?_
    (refine zM [0,1,5] ?_;refine zI [none,none,none,none,none,none,none,none,none] ?_)
    (try simp (disch:=omega) only [go_sem,simprocAttr,if_pos,if_neg,w64,beqT,beqF,bneT,bneF,qat,qap,decide_eq_true,decide_eq_false,eII])
    by_cases hc:a[i]=b[i]
    ·have h1:(a[i].1==b[i].1)=true:=by rw [hc];exact beq_self_eq_true _
     have h2:(a[i].2==b[i].2)=true:=by rw [hc];exact beq_self_eq_true _
     (try simp (disch:=omega) only [go_sem,simprocAttr,if_pos,if_neg,w64,beqT,beqF,bneT,bneF,qat,qap,decide_eq_true,decide_eq_false,h1,h2])
     refine⟨i+1,⟨hb,?_⟩,by omega,?_⟩
     ·rw [List.take_succ_eq_append_getElem hb,List.take_succ_eq_append_getElem (by omega),he,hc]
     ·constructor<;>((try refine zW ?_);(try with_reducible exact True.intro))
    ·have h1:(a[i].1==b[i].1 && a[i].2==b[i].2)=false:=by
      rw [Bool.and_eq_false_iff,beq_eq_false_iff_ne,beq_eq_false_iff_ne]
      by_cases e:a[i].1=b[i].1
      ·exact .inr fun e2=>hc (Prod.ext e e2)
      ·exact .inl e
     (try simp (disch:=omega) only [go_sem,simprocAttr,if_pos,if_neg,w64,beqT,beqF,bneT,bneF,qat,qap,decide_eq_true,decide_eq_false,h1])
     symm
     rw [beq_eq_false_iff_ne]
     rintro rfl
     exact hc rfl
   ·try refine zO ?_
    obtain rfl:i=a.length:=by omega
    rw [List.take_length,hn,List.take_length] at he
    simp [he]
 ·try refine zO ?_
  symm
  rw [beq_eq_false_iff_ne]
  rintro rfl
  exact hn rfl
def samePc (p q:Pc):Bool:=p.node==q.node && p.state==q.state && p.steps==q.steps && p.sent==q.sent && p.inn==q.inn && p.out==q.out
theorem qc1 {p q:Pc}:samePc p q=true↔p=q:=by
 unfold samePc
 simp only [Bool.and_eq_true,beq_iff_eq]
 constructor
 ·rintro⟨⟨⟨⟨⟨h1,h2⟩,h3⟩,h4⟩,h5⟩,h6⟩
  cases p;cases q;simp_all
 ·rintro rfl;simp
theorem Same_spec (p q:Pc):Pure prog 87 [lPc p,lPc q] (scb (samePc p q)):=by
 generalize hres:samePc p q=res
 obtain⟨n1,s1,t1,se1,i1,o1⟩:=p
 obtain⟨n2,s2,t2,se2,i2,o2⟩:=q
 unfold samePc at hres
 simp only at hres
 refine pcall0 200 (fn:=f87) func87 rfl (by simp [ntmps87]) zB zB fun hs=>?_
 simp (maxSteps:=2000000) only [go_sem,simprocAttr,maxLen] at hs
 try refine zW ?_
 by_cases h1:n1=n2
 ·(try simp (maxSteps:=2000000) (disch:=omega) only [go_sem,simprocAttr,if_pos,if_neg,w64,beqT,beqF,bneT,bneF,qat,qap,decide_eq_true,decide_eq_false,h1])
  by_cases h2:s1=s2
  ·(try simp (maxSteps:=2000000) (disch:=omega) only [go_sem,simprocAttr,if_pos,if_neg,w64,beqT,beqF,bneT,bneF,qat,qap,decide_eq_true,decide_eq_false,h2])
   by_cases h3:t1=t2
   ·(try simp (maxSteps:=2000000) (disch:=omega) only [go_sem,simprocAttr,if_pos,if_neg,w64,beqT,beqF,bneT,bneF,qat,qap,decide_eq_true,decide_eq_false,h3])
    (refine zG ?_;refine callA_of (qcK _ _) zB ?_;try refine zW ?_)
    cases h4:se1==se2 with
    | false=>
      (try simp (maxSteps:=2000000) (disch:=omega) only [go_sem,simprocAttr,if_pos,if_neg,w64,beqT,beqF,bneT,bneF,qat,qap,decide_eq_true,decide_eq_false,h4])
      rw [h4] at hres
      rw [←hres];simp
    | true=>
      (try simp (maxSteps:=2000000) (disch:=omega) only [go_sem,simprocAttr,if_pos,if_neg,w64,beqT,beqF,bneT,bneF,qat,qap,decide_eq_true,decide_eq_false,h4])
      by_cases h5:i1.length=i2.length
      ·(try simp (maxSteps:=2000000) (disch:=omega) only [go_sem,simprocAttr,if_pos,if_neg,w64,beqT,beqF,bneT,bneF,qat,qap,decide_eq_true,decide_eq_false,h5])
       by_cases h6:o1.length=o2.length
       ·(try simp (maxSteps:=2000000) (disch:=omega) only [go_sem,simprocAttr,if_pos,if_neg,w64,beqT,beqF,bneT,bneF,qat,qap,decide_eq_true,decide_eq_false,h6])
        have hr:(i1==i2 && o1==o2)=res:=by rw [←hres,h1,h2,h3,h4];simp
        clear hres
        (refine walk_trim [2,3,5] trivial zL ?_;((try refine zW ?_);(try with_reducible exact True.intro)))
        refine qan 200 200 (fun i:Nat=>i≤i1.length∧i1.take i=i2.take i) (fun i=>⟨90, [(2, .ptr 0 0 0 0),(3, .ptr 1 0 0 0),(5,sci .i64 i)], [],2,
         [(1, .arr 6 0 [[sci .i64 n2,sci .i64 s2,sci .i64 t2,lI se2,lMs i2,lLs o2]]),(0, .arr 6 0 [[sci .i64 n2,sci .i64 s2,sci .i64 t2,lI se1,lMs i1,lLs o1]])]⟩) (fun i=>i1.length - i) 0 ?_ ?_ ?_
        ·simp
        ·constructor<;>(try simp (maxSteps:=2000000) (disch:=omega) only [go_sem,simprocAttr,if_pos,if_neg,w64,beqT,beqF,bneT,bneF,qat,qap,decide_eq_true,decide_eq_false,Int.natCast_zero,h1,h2,h3])
        ·rintro i ⟨hi,he⟩
         try refine zW ?_
         by_cases hb:i < i1.length
         ·try refine zO ?_
          (refine zM [2,3,5] ?_;refine zI [none,none,none,none,none,none,none,none,none,none,some [],none] ?_)
          (try simp (maxSteps:=2000000) (disch:=omega) only [go_sem,simprocAttr,if_pos,if_neg,w64,beqT,beqF,bneT,bneF,qat,qap,decide_eq_true,decide_eq_false,eMs])
          (refine zF ?_;refine callA_of (Msgs_spec _ _) zB ?_;try refine zW ?_)
          by_cases hc:i1[i]=i2[i]
          ·(try simp (maxSteps:=2000000) (disch:=omega) only [go_sem,simprocAttr,if_pos,if_neg,w64,beqT,beqF,bneT,bneF,qat,qap,decide_eq_true,decide_eq_false,hc])
           refine⟨i+1,⟨hb,?_⟩,by omega,?_⟩
           ·rw [List.take_succ_eq_append_getElem hb,List.take_succ_eq_append_getElem (by omega),he,hc]
           ·constructor<;>((try refine zW ?_);(try with_reducible exact True.intro))
          ·have hc2:(i1[i]==i2[i])=false:=by rw [beq_eq_false_iff_ne];exact hc
           (try simp (maxSteps:=2000000) (disch:=omega) only [go_sem,simprocAttr,if_pos,if_neg,w64,beqT,beqF,bneT,bneF,qat,qap,decide_eq_true,decide_eq_false,hc2])
           rw [←hr]
           symm
           rw [Bool.and_eq_false_iff]
           left
           rw [beq_eq_false_iff_ne]
           rintro rfl
           exact hc rfl
         ·have hi2:i=i1.length:=by omega
          subst hi2
          rw [List.take_length,h5,List.take_length] at he
          subst he
          have hr2:(o1==o2)=res:=by rw [←hr];simp
          try refine zO ?_
          (refine walk_trim [2,3,6] trivial zL ?_;((try refine zW ?_);(try with_reducible exact True.intro)))
          refine qan 200 200 (fun j:Nat=>j≤o1.length∧o1.take j=o2.take j) (fun j=>⟨90, [(2, .ptr 0 0 0 0),(3, .ptr 1 0 0 0),(6,sci .i64 j)], [],2,
           [(1, .arr 6 0 [[sci .i64 n2,sci .i64 s2,sci .i64 t2,lI se2,lMs i1,lLs o2]]),(0, .arr 6 0 [[sci .i64 n2,sci .i64 s2,sci .i64 t2,lI se1,lMs i1,lLs o1]])]⟩) (fun j=>o1.length - j) 0 ?_ ?_ ?_
          ·simp
          ·constructor<;>(try simp (maxSteps:=2000000) (disch:=omega) only [go_sem,simprocAttr,if_pos,if_neg,w64,beqT,beqF,bneT,bneF,qat,qap,decide_eq_true,decide_eq_false,Int.natCast_zero])
          ·rintro j ⟨hj,hf⟩
           try refine zW ?_
           by_cases hb2:j < o1.length
           ·try refine zO ?_
            (refine zM [2,3,6] ?_;refine zI [none,none,none,none,none,none,none,none,none,none,some [],none] ?_)
            (try simp (maxSteps:=2000000) (disch:=omega) only [go_sem,simprocAttr,if_pos,if_neg,w64,beqT,beqF,bneT,bneF,qat,qap,decide_eq_true,decide_eq_false,eLs])
            (refine zF ?_;refine callA_of (qcK _ _) zB ?_;try refine zW ?_)
            by_cases hc:o1[j]=o2[j]
            ·(try simp (maxSteps:=2000000) (disch:=omega) only [go_sem,simprocAttr,if_pos,if_neg,w64,beqT,beqF,bneT,bneF,qat,qap,decide_eq_true,decide_eq_false,hc])
             refine⟨j+1,⟨hb2,?_⟩,by omega,?_⟩
             ·rw [List.take_succ_eq_append_getElem hb2,List.take_succ_eq_append_getElem (by omega),hf,hc]
             ·constructor<;>((try refine zW ?_);(try with_reducible exact True.intro))
            ·have hc2:(o1[j]==o2[j])=false:=by rw [beq_eq_false_iff_ne];exact hc
             (try simp (maxSteps:=2000000) (disch:=omega) only [go_sem,simprocAttr,if_pos,if_neg,w64,beqT,beqF,bneT,bneF,qat,qap,decide_eq_true,decide_eq_false,hc2])
             rw [←hr2]
             symm
             rw [beq_eq_false_iff_ne]
             rintro rfl
             exact hc rfl
           ·have hj2:j=o1.length:=by omega
            subst hj2
            rw [List.take_length,h6,List.take_length] at hf
            subst hf
            try refine zO ?_
            rw [←hr2];simp
       ·(try simp (maxSteps:=2000000) (disch:=omega) only [go_sem,simprocAttr,if_pos,if_neg,w64,beqT,beqF,bneT,bneF,qat,qap,decide_eq_true,decide_eq_false,h6])
        rw [←hres]
        symm
        have:(o1==o2)=false:=by rw [beq_eq_false_iff_ne];rintro rfl;exact h6 rfl
        rw [this];simp
      ·(try simp (maxSteps:=2000000) (disch:=omega) only [go_sem,simprocAttr,if_pos,if_neg,w64,beqT,beqF,bneT,bneF,qat,qap,decide_eq_true,decide_eq_false,h5])
       rw [←hres]
       symm
       have:(i1==i2)=false:=by rw [beq_eq_false_iff_ne];rintro rfl;exact h5 rfl
       rw [this];simp
   ·(try simp (maxSteps:=2000000) (disch:=omega) only [go_sem,simprocAttr,if_pos,if_neg,w64,beqT,beqF,bneT,bneF,qat,qap,decide_eq_true,decide_eq_false,h3])
    rw [←hres]
    symm
    have:(t1==t2)=false:=by rw [beq_eq_false_iff_ne];exact h3
    rw [this];simp
  ·(try simp (maxSteps:=2000000) (disch:=omega) only [go_sem,simprocAttr,if_pos,if_neg,w64,beqT,beqF,bneT,bneF,qat,qap,decide_eq_true,decide_eq_false,h2])
   rw [←hres]
   symm
   have:(s1==s2)=false:=by rw [beq_eq_false_iff_ne];exact h2
   rw [this];simp
 ·(try simp (maxSteps:=2000000) (disch:=omega) only [go_sem,simprocAttr,if_pos,if_neg,w64,beqT,beqF,bneT,bneF,qat,qap,decide_eq_true,decide_eq_false,h1])
  rw [←hres]
  symm
  have:(n1==n2)=false:=by rw [beq_eq_false_iff_ne];exact h1
  rw [this];simp
def qbE:List Pc→List Pc→Bool
 | [], []=>true
 | p::r,q::s=>samePc p q && qbE r s
 | _,_=>false
theorem qbs: ∀ {a b:List Pc},qbE a b=true↔a=b
 | [], []=>by simp [qbE]
 | p::r,q::s=>by simp [qbE,qc1,qbs (a:=r) (b:=s)]
 | [],_::_=>by simp [qbE]
 | _::_, []=>by simp [qbE]
theorem qqc (a b:List Pc):Pure prog 117 [lPs a,lPs b] (scb (qbE a b)):=by
 generalize hres:qbE a b=res
 refine pcall0 200 (fn:=f117) func117 rfl (by simp [ntmps117]) zB zB fun hs=>?_
 simp only [go_sem,simprocAttr,maxLen] at hs
 obtain⟨⟨ha, -⟩,hb, -⟩:=hs
 try refine zW ?_
 by_cases hn:a.length=b.length
 ·(try simp (disch:=omega) only [go_sem,simprocAttr,if_pos,if_neg,w64,beqT,beqF,bneT,bneF,qat,qap,decide_eq_true,decide_eq_false,hn])
  refine qan 200 200 (fun i:Nat=>i≤a.length∧a.take i=b.take i) (fun i=>⟨27, [(0,lPs a),(1,lPs b),(5,sci .i64 i)], [],0, []⟩) (fun i=>a.length - i) 0 ?_ ?_ ?_
  ·simp
  ·constructor<;>(try simp only [go_sem,simprocAttr,Int.natCast_zero])
  ·rintro i ⟨hi,he⟩
   try refine zW ?_
   by_cases hb:i < a.length
   ·try refine zO ?_
    (refine zM [0,1,5] ?_;refine zI [none,none,none,none,none,none,none,none,some [],none] ?_)
    (try simp (disch:=omega) only [go_sem,simprocAttr,if_pos,if_neg,w64,beqT,beqF,bneT,bneF,qat,qap,decide_eq_true,decide_eq_false,ePc])
    (refine zF ?_;refine callA_of (Same_spec a[i] b[i]) zB ?_;try refine zW ?_)
    by_cases hc:a[i]=b[i]
    ·have hc2:samePc a[i] b[i]=true:=qc1.2 hc
     (try simp (disch:=omega) only [go_sem,simprocAttr,if_pos,if_neg,w64,beqT,beqF,bneT,bneF,qat,qap,decide_eq_true,decide_eq_false,hc2])
     refine⟨i+1,⟨hb,?_⟩,by omega,?_⟩
     ·rw [List.take_succ_eq_append_getElem hb,List.take_succ_eq_append_getElem (by omega),he,hc]
     ·constructor<;>((try refine zW ?_);(try with_reducible exact True.intro))
    ·have hc2:samePc a[i] b[i]=false:=by rw [←Bool.not_eq_true];exact fun h=>hc (qc1.1 h)
     (try simp (disch:=omega) only [go_sem,simprocAttr,if_pos,if_neg,w64,beqT,beqF,bneT,bneF,qat,qap,decide_eq_true,decide_eq_false,hc2])
     rw [←hres]
     symm
     rw [←Bool.not_eq_true,qbs]
     rintro rfl
     exact hc rfl
   ·try refine zO ?_
    obtain rfl:i=a.length:=by omega
    rw [List.take_length,hn,List.take_length] at he
    rw [←hres]
    exact(qbs.2 he).symm
 ·(try simp (disch:=omega) only [go_sem,simprocAttr,if_pos,if_neg,w64,beqT,beqF,bneT,bneF,qat,qap,decide_eq_true,decide_eq_false,hn])
  rw [←hres]
  symm
  rw [←Bool.not_eq_true,qbs]
  rintro rfl
  exact hn rfl
theorem Refs_spec (l:List Pc) (hn:l.length≤1000):Pure prog 114 [lPs l] (lPs l):=by
 refine pcall0 200 (fn:=f114) func114 rfl (by simp [ntmps114]) zB zB fun hs=>?_
 try refine zW ?_
 refine qbe 3 6 trivial rfl (.inl rfl) ?_
 (refine walk_trim [0,3,4] trivial zL ?_;((try refine zW ?_);(try with_reducible exact True.intro)))
 refine qac 200 200 (fun i:Nat × Nat × List Pc=>i.1≤l.length∧i.2.2=l.take i.1)
  (fun i=>⟨21, [(0,lPs l),(3, .ref 0 i.2.1 0 i.2.2.length),(4,sci .i64 i.1)], [],1, [(0, .arr 6 i.2.1 (ir ePc i.2.2))]⟩) (fun i=>l.length - i.1) (0,0, []) [] ?_ ?_ ?_
 ·simp
 ·constructor<;>(try simp (disch:=omega) only [go_sem,simprocAttr,if_pos,if_neg,w64,beqT,beqF,bneT,bneF,qat,qap,decide_eq_true,decide_eq_false,Int.natCast_zero])
 ·rintro⟨i,g,acc⟩ ⟨h1,h3⟩
  simp only at h1 h3
  have hal:acc.length=i:=by rw [h3];simp;omega
  try refine zW ?_
  by_cases hl:i < l.length
  ·(try simp (disch:=omega) only [go_sem,simprocAttr,if_pos,if_neg,w64,beqT,beqF,bneT,bneF,qat,qap,decide_eq_true,decide_eq_false,ePc])
   (refine zG ?_;refine callA_of (qeM l[i]) zB ?_)
   (try simp (disch:=omega) only [go_sem,simprocAttr,if_pos,if_neg,w64,beqT,beqF,bneT,bneF,qat,qap,decide_eq_true,decide_eq_false,ePc])
   refine⟨(i+1,g+1,acc++ [l[i]]), [],⟨hl,?_⟩,?_,?_⟩
   ·simp only [h3]
    rw [List.take_succ_eq_append_getElem hl]
   ·simp only;omega
   ·constructor<;>(try simp (disch:=omega) only [go_sem,simprocAttr,if_pos,if_neg,w64,beqT,beqF,bneT,bneF,qat,qap,decide_eq_true,decide_eq_false,ePc,ir_snoc,List.map_cons,List.map_nil])
  ·rw [List.take_of_length_le (by omega)] at h3
   (try simp (disch:=omega) only [go_sem,simprocAttr,if_pos,if_neg,w64,beqT,beqF,bneT,bneF,qat,qap,decide_eq_true,decide_eq_false,h3])
end Go.Proofs.NO
/-
 Contracts of calls that panic, and their callers on the walk.
-/
namespace Go.Idl
variable {P:Program}
def PPan (P:Program) (f:FuncId) (args:List IV) (R:List (Nat × IBlk)) (Wp:List (Nat × IBlk)→Prop) (ch:List PanicEntry):Prop:=
 ∀h:IH,(∀p∈R,look h.m p.1=some p.2)→qa5 P f args h fun r nx l=>r= .pan ch∧nx=h.nx∧Wp l
def callX (P:Program) (c:FuncId) (zs:List IV) (G:Nat→Option IBlk) (K:List PanicEntry→List (Nat × IBlk)→Prop):Prop:= ∃R Wp ch,PPan P c zs R Wp ch∧qiK G R∧ ∀W,Wp W→K ch W
theorem qm4 {c:FuncId} {zs zs':List IV} {G:Nat→Option IBlk} {K:List PanicEntry→List (Nat × IBlk)→Prop} (h:zs=zs'):callX P c zs G K=callX P c zs' G K:=by rw [h]
attribute [congr] qm4
theorem qcL {h0:IH} {Q:Exit→qaa→Prop} {ch:List PanicEntry} {S:qaa}: ∀ {k:List It},Q (.panic ch) S→after P h0 Q k (.panic ch) S
 | [],h=>h
 | .blk _::k,h=>qcL (k:=k) h
 | .code _::k,h=>qcL (k:=k) h
 | .ops _ _::k,h=>qcL (k:=k) h
section
variable {h0:IH} {Q:Exit→qaa→Prop} {k:List It} {all:Array Oper} {r:List Oper} {dst:Option Tmp} {ty:TypeId} {pos:String} {aft:Array Edge} {N:Nat} {s:List (Nat × IV)} {d:List IDef} {nx:Nat} {l:List (Nat × IBlk)}
 {g:Option (Nat × Bool)} {f:Operand} {args:List Operand} {ts:List TypeId}
theorem qkY {x:Operand} {t:TypeId} {v:Value} (hw:qai all s ⟨dst, .panic x,ty,pos,aft,g⟩=some true) (hx:ev s x=some (.p (.sc (.iface t v)))) (h:Q (.panic [{v:= .iface t v,recovered:=false}]) ⟨N,s,d,nx,l⟩):
  IRun P h0 (.ops all (⟨dst, .panic x,ty,pos,aft,g⟩::r)::k) ⟨N,s,d,nx,l⟩ Q:=
 iops_panic (S:=⟨N,s,d,nx,l⟩) rfl hw hx (qcL h)
end
section
variable {h:IH} {Wp:List (Nat × IBlk)→Prop} {ch c:List PanicEntry} {N:Nat} {s:List (Nat × IV)} {d:List IDef} {nx:Nat} {l:List (Nat × IBlk)}
end
end Go.Idl
/-
 Functions that defer a call, on the walk.
-/
namespace Go.Idl
variable {P:Program}
section
variable {fn:Func} {h:IH} {x:IV} {ch:List PanicEntry} {N:Nat} {s:List (Nat × IV)} {d:List IDef} {nx:Nat} {l:List (Nat × IBlk)}
end
section
variable {h0:IH} {Q:Exit→qaa→Prop} {k:List It} {all:Array Oper} {r:List Oper} {dst:Option Tmp} {ty:TypeId} {pos:String} {aft:Array Edge} {N:Nat} {s:List (Nat × IV)} {d:List IDef} {nx:Nat} {l:List (Nat × IBlk)}
 {g:Option (Nat × Bool)} {f:Operand} {args:List Operand} {ts:Array TypeId}
theorem qdR (n:Nat) {x:IDef} (hw:qai all s ⟨dst, .defer {callee:= .value f,args:=⟨args⟩,argTypes:=ts},ty,pos,aft,g⟩=some true) (hc:qfI (ev s) f args=some x) (hd:dOk N dst=true)
  (h:vc P h0 Q n (.ops all r::k) ⟨N,putS dst (.tup []) s,x::d,nx,l⟩):
  IRun P h0 (.ops all (⟨dst, .defer {callee:= .value f,args:=⟨args⟩,argTypes:=ts},ty,pos,aft,g⟩::r)::k) ⟨N,s,d,nx,l⟩ Q:=
 qhU (S:=⟨N,s,d,nx,l⟩) rfl hw hc (by cases dst<;>simp_all [dOk,qaE]) (by
  simp only [qaT]
  exact vc_sound Q n _ _ h)
end
end Go.Idl
/-
 Contracts of calls that change blocks: told once at a small heap, and used at any heap, whatever numbers its blocks bear.
-/
namespace Go.Idl
variable {P:Program}
mutual
def rnm (ρ:Nat→Nat):IV→IV
 | .p x=> .p x
 | .ref b g o l=> .ref (ρ b) g o l
 | .ptr b g r j=> .ptr (ρ b) g r j
 | .mp b=> .mp (ρ b)
 | .clo f x c=> .clo f (rnms ρ x) (rnms ρ c)
 | .agg cs=> .agg (rnms ρ cs)
 | .tup cs=> .tup (rnms ρ cs)
 | .dead=> .dead
def rnms (ρ:Nat→Nat):List IV→List IV
 | []=> []
 | x::r=>rnm ρ x::rnms ρ r
end
def rnB (ρ:Nat→Nat):IBlk→IBlk
 | .arr sz g rows=> .arr sz g (rows.map (rnms ρ))
 | .mp es=> .mp (es.map fun e=>(e.1,rnm ρ e.2))
 | .ob k vs=> .ob k (rnms ρ vs)
def rnL (ρ:Nat→Nat) (l:List (Nat × IBlk)):List (Nat × IBlk):=l.map fun p=>(ρ p.1,rnB ρ p.2)
def rnE (ρ:Nat→Nat):IEnd→IEnd
 | .ret x=> .ret (rnm ρ x)
 | .pan c=> .pan c
theorem qcG {ρ:Nat→Nat}: ∀ {l:List IV} {i:Nat} {y:IV},(rnms ρ l)[i]? =some y→ ∃x,l[i]? =some x∧y=rnm ρ x
 | [],i,y,h=>by simp [rnms] at h
 | x::r,0,y,h=>by simp [rnms] at h;exact⟨x,rfl,h.symm⟩
 | x::r,i+1,y,h=>by obtain⟨z,h1,h2⟩:=qcG (l:=r) (by simpa [rnms] using h);exact⟨z,by simpa using h1,h2⟩
theorem qbV {ρ:Nat→Nat}: ∀ {l:List IV} {i:Nat} {x:IV},l[i]? =some x→(rnms ρ l)[i]? =some (rnm ρ x)
 | [],i,y,h=>by simp at h
 | x::r,0,y,h=>by simp at h;subst h;simp [rnms]
 | x::r,i+1,y,h=>by simpa [rnms] using qbV (l:=r) (by simpa using h)
theorem qaL (ρ:Nat→Nat): ∀l:List IV,(rnms ρ l).length=l.length
 | []=>rfl
 | x::r=>by simp [rnms,qaL ρ r]
theorem qeD (ρ:Nat→Nat) (b:IBlk):(rnB ρ b).sz=b.sz:=by cases b<;>rfl
theorem rnB_gen (ρ:Nat→Nat) (b:IBlk):(rnB ρ b).gen=b.gen:=by cases b<;>rfl
theorem rnB_len (ρ:Nat→Nat) (b:IBlk):(rnB ρ b).len=b.len:=by cases b<;>simp [rnB,IBlk.len]
theorem qdc (ρ:Nat→Nat) (b:IBlk):(rnB ρ b).isMp=b.isMp:=by
 cases b with
 | ob k vs=>cases k<;>rfl
 | _=>rfl
theorem qjD {ρ σ:Nat→Nat} {K:Nat→Prop} (h: ∀i,K i→ρ i=σ i) (x:IV):qbc K x→rnm ρ x=rnm σ x:=by
 apply IV.rec (motive_1:=fun x=>qbc K x→rnm ρ x=rnm σ x) (motive_2:=fun l=>qaN K l→rnms ρ l=rnms σ l)
 ·intro x _;rfl
 ·intro b g off len hb;simp only [rnm,h b hb]
 ·intro b g r j hb;simp only [rnm,h b hb]
 ·intro b hb;simp only [rnm,h b hb]
 ·intro fn f c i1 i2 hb;simp only [rnm,i1 hb.1,i2 hb.2]
 ·intro cs ih hb;simp only [rnm,ih hb]
 ·intro cs ih hb;simp only [rnm,ih hb]
 ·intro _;rfl
 ·intro _;rfl
 ·intro x l i1 i2 hb;simp only [rnms,i1 hb.1,i2 hb.2]
theorem qdE {ρ σ:Nat→Nat} {K:Nat→Prop} (h: ∀i,K i→ρ i=σ i): ∀ {l:List IV},qaN K l→rnms ρ l=rnms σ l
 | [],_=>rfl
 | x::r,hb=>by simp only [rnms,qjD h x hb.1,qdE h hb.2]
theorem qpX {ρ σ:Nat→Nat} {K:Nat→Prop} (h: ∀i,K i→ρ i=σ i) {b:IBlk} (hb:qbu K b):rnB ρ b=rnB σ b:=by
 cases b with
 | arr sz g rows=>simp only [rnB];congr 1;exact List.map_congr_left fun r hr=>qdE h (hb r hr)
 | mp es=>simp only [rnB];congr 1;exact List.map_congr_left fun e he=>by rw [qjD h _ (hb e he)]
 | ob k vs=>simp only [rnB];congr 1;exact qdE h hb
theorem qlR (x:IV):rnm id x=x:=by
 apply IV.rec (motive_1:=fun x=>rnm id x=x) (motive_2:=fun l=>rnms id l=l)<;>simp_all [rnm,rnms]
theorem qgu: ∀l:List IV,rnms id l=l
 | []=>rfl
 | x::r=>by simp only [rnms,qlR,qgu r]
theorem qlM (b:IBlk):rnB id b=b:=by
 cases b with
 | arr sz g rows=>simp only [rnB];congr 1;exact(List.map_congr_left fun r _=>qgu r).trans (List.map_id' _)
 | mp es=>simp only [rnB];congr 1;exact(List.map_congr_left fun e _=>by rw [qlR]).trans (List.map_id' _)
 | ob k vs=>simp only [rnB];congr 1;exact qgu vs
structure Ren (K:Nat→Prop) (σ ρ:Nat→Nat) (M M':Mem):Prop where
 w:M'.w=M.w
 A: ∀i,K i→M.H.A (σ i)→M'.H.A (ρ i)
 G: ∀i,K i→ ∀blk',M'.H.G (ρ i)=some blk'→ ∃blk,M.H.G (σ i)=some blk∧blk'.sz=blk.sz∧blk'.gen=blk.gen∧blk'.len=blk.len∧blk'.isMp=blk.isMp
 β: ∀i,K i→M'.β (ρ i)=M.β (σ i)
 own: ∀c,M'.own c→M.own c
theorem VRel.ren {K:Nat→Prop} {σ ρ:Nat→Nat} {M M':Mem} (a:Ren K σ ρ M M') {x:IV} {v:Value} (h:VRel M x v): ∀y,x=rnm σ y→qbc K y→VRel M' (rnm ρ y) v:=by
 induction h with
 | p x v h=>
   intro y e hk
   cases y<;>simp only [rnm,reduceCtorEq,IV.p.injEq] at e
   subst e
   exact .p _ v (by rw [a.w];exact h.own' a.own)
 | ref b g off len v hA hv h=>
   intro y e hk
   cases y<;>simp only [rnm,reduceCtorEq,IV.ref.injEq] at e
   obtain⟨rfl,rfl,rfl,rfl⟩:=e
   refine .ref _ _ _ _ v (a.A _ hk hA) hv fun blk' hb=>?_
   obtain⟨blk,g1,g2,g3,g4,g5⟩:=a.G _ hk blk' hb
   rw [a.β _ hk,g2,g3,g4]
   exact h blk g1
 | ptr b g r j v hA hv h=>
   intro y e hk
   cases y<;>simp only [rnm,reduceCtorEq,IV.ptr.injEq] at e
   obtain⟨rfl,rfl,rfl,rfl⟩:=e
   refine .ptr _ _ _ _ v (a.A _ hk hA) hv fun blk' hb=>?_
   obtain⟨blk,g1,g2,g3,g4,g5⟩:=a.G _ hk blk' hb
   rw [a.β _ hk,g2,g3]
   exact h blk g1
 | mp b v hA hv h=>
   intro y e hk
   cases y<;>simp only [rnm,reduceCtorEq,IV.mp.injEq] at e
   subst e
   refine .mp _ v (a.A _ hk hA) hv fun blk' hb=>?_
   obtain⟨blk,g1,g2,g3,g4,g5⟩:=a.G _ hk blk' hb
   rw [a.β _ hk,g5]
   exact h blk g1
 | clo fn first cap vf vc hf hc rf rc i1 i2=>
   intro y e hk
   cases y<;>simp only [rnm,reduceCtorEq,IV.clo.injEq] at e
   obtain⟨rfl,rfl,rfl⟩:=e
   refine .clo _ _ _ vf vc (by rw [hf,qaL,qaL]) (by rw [hc,qaL,qaL]) (fun i x v hx hv=>?_) fun i x v hx hv=>?_
   ·obtain⟨z,hz,rfl⟩:=qcG hx
    exact i1 i _ v (qbV hz) hv z rfl (qaS hk.1 hz)
   ·obtain⟨z,hz,rfl⟩:=qcG hx
    exact i2 i _ v (qbV hz) hv z rfl (qaS hk.2 hz)
 | agg cs vs hl h1 r ih=>
   intro y e hk
   cases y<;>simp only [rnm,reduceCtorEq,IV.agg.injEq] at e
   subst e
   refine .agg _ vs (by rw [hl,qaL,qaL]) h1 fun i x v hx hv=>?_
   obtain⟨z,hz,rfl⟩:=qcG hx
   exact ih i _ v (qbV hz) hv z rfl (qaS hk hz)
 | tup cs vs hl r ih=>
   intro y e hk
   cases y<;>simp only [rnm,reduceCtorEq,IV.tup.injEq] at e
   subst e
   refine .tup _ vs (by rw [hl,qaL,qaL]) fun i x v hx hv=>?_
   obtain⟨z,hz,rfl⟩:=qcG hx
   exact ih i _ v (qbV hz) hv z rfl (qaS hk hz)
 | dead v=>
   intro y e hk
   cases y<;>simp only [rnm,reduceCtorEq] at e
   exact .dead v
theorem BRel.ren {K:Nat→Prop} {σ ρ:Nat→Nat} {M M':Mem} (a:Ren K σ ρ M M') {i:Nat} (hi:K i) {blk:IBlk} (h:BRel M (σ i) (rnB σ blk)) (hin:qbu K blk):BRel M' (ρ i) (rnB ρ blk):=by
 cases blk with
 | arr sz g rows=>
   obtain⟨h1,h2,h3⟩:=h
   refine⟨fun row hrow=>?_,fun hn=>?_,fun c o n hc=>?_⟩
   ·obtain⟨r,hr,rfl⟩:=List.mem_map.1 hrow
    have:=h1 _ (List.mem_map_of_mem hr)
    rw [qaL] at this ⊢;exact this
   ·have:=h2 (by rw [←a.β i hi];exact hn)
    rw [List.map_eq_nil_iff] at this ⊢;exact this
   ·rw [a.β i hi] at hc
    obtain⟨cs,ty,q1,q2,q3,q4,q5⟩:=h3 c o n hc
    rw [List.length_map] at q2
    refine⟨cs,ty,by rw [a.w];exact q1,by rw [List.length_map];exact q2,q3,q4,fun k row j x hk hj=>?_⟩
    rw [List.getElem?_map] at hk
    cases hr:rows[k]? with
    | none=>rw [hr] at hk;cases hk
    | some r=>
      rw [hr] at hk
      simp only [Option.map_some,Option.some.injEq] at hk
      subst hk
      obtain⟨z,hz,rfl⟩:=qcG hj
      obtain⟨v,v1,v2,v3⟩:=q5 k (rnms σ r) j (rnm σ z) (by rw [List.getElem?_map,hr];rfl) (qbV hz)
      exact⟨v,v1,v2,v3.ren a z rfl (qaS (hin r (List.mem_of_getElem? hr)) hz)⟩
 | mp es=>
   obtain⟨c,o,n,hc,es',clock,q1,q2,q3⟩:=h
   refine⟨c,o,n,by rw [a.β i hi];exact hc,es',clock,by rw [a.w];exact q1,by simpa using q2,fun k key x hk=>?_⟩
   rw [List.getElem?_map] at hk
   cases hr:es[k]? with
   | none=>rw [hr] at hk;cases hk
   | some e0=>
     rw [hr] at hk
     simp only [Option.map_some,Option.some.injEq,Prod.mk.injEq] at hk
     obtain⟨rfl,rfl⟩:=hk
     obtain⟨e,e1,e2,e3⟩:=q3 k e0.1 (rnm σ e0.2) (by rw [List.getElem?_map,hr];rfl)
     exact⟨e,e1,e2,e3.ren a _ rfl (hin e0 (List.mem_of_getElem? hr))⟩
 | ob k vs=>
   obtain⟨c,o,n,hc,ob,us,q1,q2,q3,q4⟩:=h
   refine⟨c,o,n,by rw [a.β i hi];exact hc,ob,us,by rw [a.w];exact q1,q2,by rw [q3,qaL,qaL],fun j x v hj hv=>?_⟩
   obtain⟨z,hz,rfl⟩:=qcG hj
   exact(q4 j _ v (qbV hz) hv).ren a z rfl (qaS hin hz)
theorem qbF.ren {K:Nat→Prop} {σ ρ:Nat→Nat} {M M':Mem} (a:Ren K σ ρ M M') {r:IEnd} {e:Ending} (h:qbF M (rnE σ r) e) (hr: ∀x,r= .ret x→qbc K x):qbF M' (rnE ρ r) e:=by
 cases r with
 | ret x=>obtain⟨v,h1,h2⟩:=h;exact⟨v,h1,h2.ren a x rfl (hr x rfl)⟩
 | pan c=>exact h
def qbH:Nat→List IBlk→List (Nat × IBlk)
 | _, []=> []
 | i,x::r=>(i,x)::qbH (i+1) r
theorem qh1: ∀(l:List IBlk) (i k:Nat),look (qbH i l) k=if i≤k then l[k - i]? else none
 | [],i,k=>by simp [qbH,look]
 | y::r,i,k=>by
   simp only [qbH,look]
   by_cases e:k=i
   ·subst e;simp
   ·rw [if_neg (fun h=>e h.symm),qh1 r (i+1) k]
    by_cases h:i≤k
    ·rw [if_pos h,if_pos (by omega),show k - i=(k - (i+1))+1 by omega];simp
    ·rw [if_neg h,if_neg (by omega)]
theorem qgH (l:List IBlk) (k:Nat):look (qbH 0 l) k=l[k]? :=by rw [qh1];simp
theorem qg2 {n:Nat} {ρ:Nat→Nat} (hinj: ∀i j,i < n→j < n→ρ i=ρ j→i=j): ∀ {W:List (Nat × IBlk)},(∀p∈W,p.1 < n)→ ∀ {i:Nat},i < n→look (rnL ρ W) (ρ i)=(look W i).map (rnB ρ)
 | [],_,i,_=>rfl
 | p::W,hW,i,hi=>by
   have ih:=qg2 hinj (W:=W) (fun q hq=>hW q (List.mem_cons_of_mem _ hq)) hi
   have hp:=hW p (List.mem_cons_self ..)
   show look ((ρ p.1,rnB ρ p.2)::rnL ρ W) (ρ i)=_
   simp only [look]
   by_cases e:p.1=i
   ·subst e;simp
   ·rw [if_neg (fun h=>e (hinj _ _ hp hi h)),if_neg e,ih]
theorem qj1 {n:Nat} {ρ:Nat→Nat} {W:List (Nat × IBlk)} (hW: ∀p∈W,p.1 < n) {b:Nat} (hb: ∀i,i < n→ρ i≠b):look (rnL ρ W) b=none:=by
 cases h:look (rnL ρ W) b with
 | none=>rfl
 | some x=>
   have:=qaD h
   obtain⟨p,hp,e⟩:=List.mem_map.1 this
   simp only [Prod.mk.injEq] at e
   exact absurd e.1 (hb _ (hW p hp))
structure qha (k c:Nat) (σ:Nat→Nat):Prop where
 old: ∀i,i < k→σ i=i
 new: ∀i,k≤i→i < k+c→k≤σ i
 inj: ∀i j,i < k+c→j < k+c→σ i=σ j→i=j
structure WOk (k c:Nat) (W:List (Nat × IBlk)):Prop where
 low: ∀p∈W,p.1 < k+c∧qbu (· < k+c) p.2
 new: ∀i,k≤i→i < k+c→qaP W i
theorem qk2 {n:FuncId} {zs:List IV} {c:Nat} {R:List IBlk} {Ψ:IEnd→List (Nat × IBlk)→Prop} {ρ:Nat→Nat}
  (hinj: ∀i j,i < R.length+c→j < R.length+c→ρ i=ρ j→i=j) (hin: ∀blk∈R,qbu (· < R.length) blk) (hzs:qaN (· < R.length) zs)
  (hp:qa5 P n zs ⟨R.length,qbH 0 R⟩ fun r _ l=> ∃σ r0 W,qha R.length c σ∧WOk R.length c W∧l=rnL σ W∧(∀M e,qbF M r e→qbF M (rnE σ r0) e)∧(∀x,r0= .ret x→qbc (· < R.length+c) x)∧Ψ r0 W)
  {M:Mem} (hM:MRel M) (hG: ∀i blk,R[i]? =some blk→M.H.G (ρ i)=some (rnB ρ blk)) (hF: ∀j,R.length≤j→j < R.length+c→ ¬M.H.A (ρ j))
  {vs:List Value} (hlen:vs.length=zs.length) (hv: ∀(i:Nat) (y:IV) (v:Value),zs[i]? =some y→vs[i]? =some v→VRel M (rnm ρ y) v):
  Calls P n ⟨vs⟩ M.w fun e w'=> ∃M' r0 W,M'.w=w'∧qae M M'∧MRel M'∧M'.H=M.H.upd (rnL ρ W).reverse∧qbF M' (rnE ρ r0) e∧WOk R.length c W∧Ψ r0 W:=by
 classical
 generalize hk:R.length=k at *
 have hRk: ∀i blk,R[i]? =some blk→i < k:=fun i blk h=>by rw [←hk];exact qab h
 have hRs: ∀i,i < k→ ∃blk,R[i]? =some blk:=fun i h=>⟨_,List.getElem?_eq_getElem (by omega)⟩
 let Mp:Mem:=⟨M.w,⟨(· < k),look (qbH 0 R),fun c=>M.H.O c∨ ∃b blk o n,(∀i,i < k→ρ i≠b)∧M.H.G b=some blk∧M.β b=some (c,o,n)⟩,fun i=>if i < k then M.β (ρ i) else none⟩
 have hGp: ∀i,Mp.H.G i=R[i]? :=fun i=>qgH R i
 have hβp: ∀i,i < k→Mp.β i=M.β (ρ i):=fun i h=>if_pos h
 have hownp: ∀c,Mp.own c→M.own c:=by
  rintro c ((h | ⟨b,blk,o,n,_,h1,h2⟩) | ⟨b,blk,o,n,h1,h2⟩)
  ·exact .inl h
  ·exact .inr ⟨b,blk,o,n,h1,h2⟩
  ·rw [hGp] at h1
   have hb:=hRk b blk h1
   rw [hβp b hb] at h2
   exact .inr ⟨ρ b,_,o,n,hG b blk h1,h2⟩
 have ren0:Ren (· < k) ρ id M Mp:=by
  refine⟨rfl,fun i hi _=>hi,fun i hi blk' hb=>?_,fun i hi=>hβp i hi,hownp⟩
  have hb:R[i]? =some blk':=by rw [←hGp];exact hb
  exact⟨_,hG i blk' hb,(qeD ..).symm,(rnB_gen ..).symm,(rnB_len ..).symm,(qdc ..).symm⟩
 have relp:MRel Mp:=by
  refine⟨fun b blk h=>hRk b blk (by rw [←hGp];exact h),fun b blk h=>?_,fun b b' blk blk' c o n o' n' h h' hc hc'=>?_,fun c hc=>?_,fun b blk c o n h hc=>?_⟩
  ·have hb:R[b]? =some blk:=by rw [←hGp];exact h
   have:=BRel.ren ren0 (hRk b blk hb) (hM.blk _ _ (hG b blk hb)) (hin blk (List.mem_of_getElem? hb))
   rw [qlM] at this;exact this
  ·have hb:R[b]? =some blk:=by rw [←hGp];exact h
   have hb':R[b']? =some blk':=by rw [←hGp];exact h'
   have l1:=hRk b blk hb
   have l2:=hRk b' blk' hb'
   rw [hβp b l1] at hc;rw [hβp b' l2] at hc'
   exact hinj b b' (by omega) (by omega) (hM.inj _ _ _ _ c o n o' n' (hG b blk hb) (hG b' blk' hb') hc hc')
  ·rcases hc with hc | ⟨b,blk,o,n,_,h1,h2⟩
   ·exact hM.olt c hc
   ·exact hM.lt (.inr ⟨b,blk,o,n,h1,h2⟩)
  ·have hb:R[b]? =some blk:=by rw [←hGp];exact h
   have l1:=hRk b blk hb
   rw [hβp b l1] at hc
   rintro(ho | ⟨b',blk',o',n',hn,h1,h2⟩)
   ·exact hM.odis _ _ c o n (hG b blk hb) hc ho
   ·exact hn b l1 (hM.inj _ _ _ _ c o n o' n' (hG b blk hb) h1 hc h2)
 have hv1: ∀(i:Nat) (y:IV) (v:Value),zs[i]? =some y→vs[i]? =some v→VRel Mp y v:=fun i y v hy hw=>by
  have:=(hv i y v hy hw).ren ren0 y rfl (qaS hzs hy)
  rw [qlR] at this;exact this
 refine Calls.mono (hp Mp vs ⟨relp,fun b h=>h,fun b=>rfl⟩ hlen hv1) fun e w' ⟨M1,nx',l',r,e1,st,hh,he,σ,r0,W,hσ,hW,hl,hr,hx,hΨ⟩=>?_
 subst e1 hl
 have he:=hr M1 e he
 have hWk: ∀p∈W,p.1 < k+c:=fun p hp=>(hW.low p hp).1
 -- the blocks, by their numbers
 have key: ∀i,i < k+c→ ∃blk,(match look (rnL ρ W) (ρ i) with | some x=>some x | none=>M.H.G (ρ i))=some (rnB ρ blk)∧M1.H.G (σ i)=some (rnB σ blk)∧qbu (· < k+c) blk:=by
  intro i hi
  rw [qg2 hinj hWk hi,hh.G,qad,qg2 hσ.inj hWk hi]
  cases hlw:look W i with
  | some blk=>exact⟨blk,rfl,rfl,(hW.low _ (qaD hlw)).2⟩
  | none=>
    have hik:i < k:=by
     rcases Nat.lt_or_ge i k with h | h
     ·exact h
     ·obtain⟨blk,hb⟩:=hW.new i h hi
      rw [hlw] at hb;cases hb
    obtain⟨blk,hb⟩:=hRs i hik
    have hbi:=hin blk (List.mem_of_getElem? hb)
    have hbi':qbu (· < k+c) blk:=by
     cases blk with
     | arr sz g rows=>exact fun row hrow=>qck (fun b (hb:b < k)=>(by omega:b < k+c)) (hbi row hrow)
     | mp es=>exact fun e he=>qen (fun b (hb:b < k)=>(by omega:b < k+c)) _ (hbi e he)
     | ob k' vs=>exact qck (fun b (hb:b < k)=>(by omega:b < k+c)) hbi
    refine⟨blk,by simpa using hG i blk hb,?_,hbi'⟩
    simp only [Option.map_none,hσ.old i hik,qgH,hb]
    rw [qpX (σ:=id) (K:=(· < k)) (fun i hi=>hσ.old i hi) hbi,qlM]
 let M':Mem:=⟨M1.w,M.H.upd (rnL ρ W).reverse,fun b=>if h: ∃i,i < k+c∧ρ i=b then M1.β (σ (Classical.choose h)) else M.β b⟩
 have hG': ∀b,M'.H.G b=match look (rnL ρ W) b with | some x=>some x | none=>M.H.G b:=by
  intro b
  show(M.H.upd (rnL ρ W).reverse).G b=_
  rw [qgy,List.reverse_reverse]
  cases look (rnL ρ W) b<;>rfl
 have hA': ∀b,M'.H.A b↔M.H.A b∨ ∃blk,(b,blk)∈rnL ρ W:=by
  intro b
  show(M.H.upd (rnL ρ W).reverse).A b↔_
  rw [qir];simp
 have hβin: ∀i,i < k+c→M'.β (ρ i)=M1.β (σ i):=by
  intro i hi
  have hex: ∃j,j < k+c∧ρ j=ρ i:=⟨i,hi,rfl⟩
  have hc:=Classical.choose_spec hex
  show(if h: ∃j,j < k+c∧ρ j=ρ i then M1.β (σ (Classical.choose h)) else M.β (ρ i))=_
  rw [dif_pos hex,hinj _ _ hc.1 hi hc.2]
 have hβout: ∀b,(∀i,i < k+c→ρ i≠b)→M'.β b=M.β b:=fun b hb=>dif_neg fun⟨i,h1,h2⟩=>hb i h1 h2
 have hGout: ∀b,(∀i,i < k+c→ρ i≠b)→M'.H.G b=M.H.G b:=fun b hb=>by rw [hG',qj1 hWk hb]
 have hGin: ∀i,i < k+c→ ∃blk,M'.H.G (ρ i)=some (rnB ρ blk)∧M1.H.G (σ i)=some (rnB σ blk)∧qbu (· < k+c) blk:=fun i hi=>by
  obtain⟨blk,h1,h2⟩:=key i hi
  exact⟨blk,by rw [hG'];exact h1,h2⟩
 have hO':M'.H.O=M.H.O:=by
  show(M.H.upd (rnL ρ W).reverse).O=M.H.O
  generalize (rnL ρ W).reverse=V
  generalize M.H=H
  induction V generalizing H with
  | nil=>rfl
  | cons p V ih=>exact ih (H.put p.1 p.2)
 have hO1: ∀c,Mp.H.O c→M1.H.O c:=fun c h=>by rw [st.oeq];exact h
 have hor: ∀b,(∃i,i < k+c∧ρ i=b)∨ ∀i,i < k+c→ρ i≠b:=by
  intro b
  by_cases h: ∃i,i < k+c∧ρ i=b
  ·exact .inl h
  ·exact .inr fun i hi e=>h ⟨i,hi,e⟩
 have hown: ∀c,M'.own c→M1.own c:=by
  rintro c (h | ⟨b,blk,o,n,h1,h2⟩)
  ·rw [hO'] at h
   exact .inl (hO1 c (.inl h))
  ·rcases hor b with ⟨i,hi,rfl⟩ | hb
   ·obtain⟨blk0,g1,g2,_⟩:=hGin i hi
    rw [hβin i hi] at h2
    exact .inr ⟨σ i,_,o,n,g2,h2⟩
   ·rw [hGout b hb] at h1;rw [hβout b hb] at h2
    exact .inl (hO1 c (.inr ⟨b,blk,o,n,fun i hi=>hb i (by omega),h1,h2⟩))
 have s:qae M M':=by
  refine⟨st.os,st.tape,st.output,st.size,fun c hc hno=>?_,fun b hb=>(hA' b).2 (.inl hb),fun b blk' hA hb=>?_,hO',fun c hc=>st.ofix c (.inl hc)⟩
  ·obtain⟨k1,k2⟩:=st.keep c hc fun h=>hno (hownp c h)
   exact⟨k1,fun h=>k2 (hown c h)⟩
  ·rcases hor b with ⟨i,hi,rfl⟩ | hk'
   ·have hik:i < k:=by
     rcases Nat.lt_or_ge i k with h | h
     ·exact h
     ·exact absurd hA (hF i h hi)
    obtain⟨blk0,g1,g2,_⟩:=hGin i hi
    rw [hb] at g1;cases g1
    rw [hσ.old i hik] at g2
    obtain⟨blk1,q1,q2,q3,q4,q5⟩:=st.comp i _ hik g2
    have hb1:R[i]? =some blk1:=by rw [←hGp];exact q1
    refine⟨_,hG i blk1 hb1,?_,?_,?_,fun e=>?_⟩
    ·rw [qeD,qeD];rw [qeD] at q2;exact q2
    ·rw [qdc,qdc];rw [qdc] at q3;exact q3
    ·rw [rnB_gen,rnB_gen];rw [rnB_gen] at q4;exact q4
    ·rw [rnB_gen,rnB_gen] at e
     rw [rnB_gen] at q5
     obtain⟨f1,f2⟩:=q5 e
     rw [rnB_len] at f2
     rw [rnB_len,rnB_len]
     exact⟨by rw [hβin i hi,hσ.old i hik,f1,hβp i hik],f2⟩
   ·rw [hGout b hk'] at hb
    exact⟨blk',hb,rfl,rfl,Nat.le_refl _,fun _=>⟨hβout b hk',rfl⟩⟩
 have al:Ren (· < k+c) σ ρ M1 M':=by
  refine⟨rfl,fun i hi _=>?_,fun i hi blk' hb=>?_,hβin,hown⟩
  ·have hii:i < k+c:=hi
   rw [hA']
   obtain⟨blk,g1,_⟩:=key i hii
   cases hlw:look (rnL ρ W) (ρ i) with
   | some x=>exact .inr ⟨x,qaD hlw⟩
   | none=>rw [hlw] at g1;exact .inl (hM.dom _ _ g1)
  ·obtain⟨blk,g1,g2,_⟩:=hGin i hi
   rw [hb] at g1;cases g1
   exact⟨_,g2,by rw [qeD,qeD],by rw [rnB_gen,rnB_gen],by rw [rnB_len,rnB_len],by rw [qdc,qdc]⟩
 have rel:MRel M':=by
  refine⟨fun b blk hb=>?_,fun b blk hb=>?_,fun b b' blk blk' c o n o' n' h h' c1 c2=>?_,fun c hc=>?_,fun b blk c o n h hc=>?_⟩
  ·rw [hA']
   rw [hG'] at hb
   cases hlw:look (rnL ρ W) b with
   | some x=>exact .inr ⟨x,qaD hlw⟩
   | none=>rw [hlw] at hb;exact .inl (hM.dom _ _ hb)
  ·rcases hor b with ⟨i,hi,rfl⟩ | hk'
   ·obtain⟨blk0,g1,g2,g3⟩:=hGin i hi
    rw [hb] at g1;cases g1
    exact BRel.ren al hi (hh.rel.blk _ _ g2) g3
   ·rw [hGout b hk'] at hb
    refine BRel.step s (hβout b hk') (fun c o n hc=>?_) (hM.blk b blk hb)
    exact st.ofix c (.inr ⟨b,blk,o,n,fun i hi=>hk' i (by omega),hb,hc⟩)
  ·rcases hor b with ⟨i,hi,rfl⟩ | hk1<;>rcases hor b' with ⟨j,hj,rfl⟩ | hk2
   ·obtain⟨x,g1,g2,_⟩:=hGin i hi
    obtain⟨y,f1,f2,_⟩:=hGin j hj
    rw [hβin i hi] at c1;rw [hβin j hj] at c2
    have:=hh.rel.inj _ _ _ _ c o n o' n' g2 f2 c1 c2
    rw [hσ.inj i j hi hj this]
   ·obtain⟨x,g1,g2,_⟩:=hGin i hi
    rw [hβin i hi] at c1;rw [hGout b' hk2] at h';rw [hβout b' hk2] at c2
    exact absurd (hO1 c (.inr ⟨b',blk',o',n',fun i hi=>hk2 i (by omega),h',c2⟩)) (hh.rel.odis _ _ c o n g2 c1)
   ·obtain⟨x,g1,g2,_⟩:=hGin j hj
    rw [hβin j hj] at c2;rw [hGout b hk1] at h;rw [hβout b hk1] at c1
    exact absurd (hO1 c (.inr ⟨b,blk,o,n,fun i hi=>hk1 i (by omega),h,c1⟩)) (hh.rel.odis _ _ c o' n' g2 c2)
   ·rw [hGout b hk1] at h;rw [hβout b hk1] at c1;rw [hGout b' hk2] at h';rw [hβout b' hk2] at c2
    exact hM.inj b b' blk blk' c o n o' n' h h' c1 c2
  ·rw [hO'] at hc
   exact Nat.lt_of_lt_of_le (hM.olt c hc) st.size
  ·rw [hO']
   rcases hor b with ⟨i,hi,rfl⟩ | hk1
   ·obtain⟨x,g1,g2,_⟩:=hGin i hi
    rw [hβin i hi] at hc
    exact fun ho=>hh.rel.odis _ _ c o n g2 hc (hO1 c (.inl ho))
   ·rw [hGout b hk1] at h;rw [hβout b hk1] at hc
    exact hM.odis b blk c o n h hc
 exact⟨M',r0,W,rfl,s,rel,rfl,he.ren al hx,hW,hΨ⟩
end Go.Idl
