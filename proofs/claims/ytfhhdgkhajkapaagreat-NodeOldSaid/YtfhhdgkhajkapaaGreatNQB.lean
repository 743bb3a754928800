/- Facts that the proofs of this claim lean on. -/
import Derived.Test.YtfhhdgkhajkapaaGreatNzCl
import Derived.Test.YtfhhdgkhajkapaaGreatIdRc
import Derived.Test.YtfhhdgkhajkapaaGreatIdNl
import Derived.Test.YtfhhdgkhajkapaaGreatIdRn
set_option linter.unusedSimpArgs false
set_option linter.unusedVariables false
/- Lists of their own, one of which is held. -/
namespace Go.Proofs.NO
open Go Go.Idl Go.Proofs Go.Proofs.Tryz
set_option maxHeartbeats 20000000
set_option maxRecDepth 100000
def qav (l:List (List (Int × Int))) (i0 b n:Nat) (i:Nat):List (List IV):=ir eMs (l.take i0)++ [.ref b 0 0 n]::ir eMs ((l.take i).drop (i0+1))
@[go_sem] theorem qr4 {l:List (List (Int × Int))} {i0 b k i n:Nat}:qbm n (qav l i0 b k i)=(b < n):=by
  unfold qav
  rw [qnl,qik]
  simp [qbm,qik,bels,bel]
theorem qoV {l:List (List (Int × Int))} {i0 b k i:Nat} (h:i0 < i) (hi:i≤l.length):(qav l i0 b k i).length=i:=by
 unfold qav ir
 simp only [List.length_append,List.length_cons,List.length_map,List.length_take,List.length_drop]
 omega
theorem qnk {l:List (List (Int × Int))} {i0 b k i:Nat} (h:i0 < i) (hi:i < l.length):qav l i0 b k (i+1)=qav l i0 b k i++ [(eMs l[i]).map .p]:=by
 unfold qav
 rw [List.take_succ_eq_append_getElem hi,List.drop_append_of_le_length (by rw [List.length_take];omega),ir_snoc,List.append_assoc,List.cons_append]
theorem qnj {l:List (List (Int × Int))} {i0 k i:Nat}:rnRw (rsel 1 [1,2]) (qav l i0 2 k i)=qav l i0 2 k i:=by
 unfold qav
 simp only [go_sem]
 rfl
theorem qoE (l:List (List (Int × Int))) (i0:Nat) (h0:i0 < l.length) (hl: ∀x∈l,x.length≤1000000) (hn:l.length≤1000000):
  PG prog 283 [sci .i64 l.length, .clo (.func 284) [] [.ptr 0 0 0 0]] [cM l] 2 (.ref 1 l.length 0 l.length)
   [(1, .arr 1 l.length (qav l i0 2 l[i0].length l.length)),(2, .arr 2 0 (ir eII l[i0])),(0,cM [])]:=by
 refine pg_of 200 (fn:=f283) func283 rfl (by simp [ntmps283]) 1 rfl zC zC zC zC zC fun hs=>?_
 try refine zW ?_
 refine qbe 5 1 trivial rfl (.inr rfl) ?_
 (refine walk_trim [1,5,6,7] trivial zL ?_;((try refine zW ?_);(try with_reducible exact True.intro)))
 refine qac 200 200 (fun i:Nat × Bool=>i.1≤l.length∧(i.2=true↔i0 < i.1))
  (fun i=>match i.2 with
   | false=>⟨16, [(1, .clo (.func 284) [] [.ptr 0 0 0 0]),(5, .ref 1 i.1 0 i.1),(6,sci .i64 l.length),(7,sci .i64 i.1)], [],2, [(1, .arr 1 i.1 (ir eMs (l.take i.1))),(0,cM (l.drop i.1))]⟩
   | true=>⟨16, [(1, .clo (.func 284) [] [.ptr 0 0 0 0]),(5, .ref 1 i.1 0 i.1),(6,sci .i64 l.length),(7,sci .i64 i.1)], [],3, [(1, .arr 1 i.1 (qav l i0 2 l[i0].length i.1)),(2, .arr 2 0 (ir eII l[i0])),(0,cM (l.drop i.1))]⟩) (fun i=>l.length - i.1) (0,false) [] ?_ ?_ ?_
 ·simp
 ·constructor<;>(try simp (disch:=omega) only [go_sem,simprocAttr,zD,zE,Int.natCast_zero,List.take_zero])
 ·rintro⟨i,ph⟩ ⟨h1,h3⟩
  simp only at h1 h3
  cases ph
  ·have hle:i≤i0:=by
    rcases Nat.lt_or_ge i0 i with q | q
    ·have:=h3.2 q;cases this
    ·exact q
   have hl':i < l.length:=by omega
   have htl:(l.take i).length=i:=by rw [List.length_take];omega
   have hmm:min i (min i l.length)=i:=by omega
   have e:l.drop i=l[i]::l.drop (i+1):=List.drop_eq_getElem_cons hl'
   try refine zW ?_
   (try simp (disch:=omega) only [go_sem,simprocAttr,zD,zE,e])
   (refine at_g 200 ?_;refine zW ?_;refine callG_of [0] (qjA l[i] (l.drop (i+1)) (hl _ (List.getElem_mem hl')) (by rw [List.length_drop];omega)) zU ?_)
   (try simp (disch:=omega) only [go_sem,simprocAttr,zD,zE,eMs,htl])
   rcases Nat.lt_or_ge i i0 with hi | hi
   ·refine⟨(i+1,false), [2],⟨hl',⟨(fun q=>by cases q),(fun q=>by simp only at q;omega)⟩⟩,by simp only;omega,?_⟩
    have e2:l.take (i+1)=l.take i++ [l[i]]:=List.take_succ_eq_append_getElem hl'
    have e3:(l.take i).take i=l.take i:=by rw [List.take_take,Nat.min_self]
    constructor<;>(try simp (disch:=omega) only [go_sem,simprocAttr,zD,zE,e2,e3,eMs,htl,hmm,ir_snoc,List.map_cons,List.map_nil])
   ·obtain rfl:i=i0:=by omega
    refine⟨(i+1,true), [],⟨hl',by simp⟩,by simp only;omega,?_⟩
    have e2:qav l i 2 l[i].length (i+1)=ir eMs (l.take i)++ [[.ref 2 0 0 l[i].length]]:=by
     unfold qav
     rw [List.drop_eq_nil_of_le (by rw [List.length_take];omega)];rfl
    have e3:(l.take i).take i=l.take i:=by rw [List.take_take,Nat.min_self]
    constructor<;>(try simp (disch:=omega) only [go_sem,simprocAttr,zD,zE,e2,e3,htl,hmm])
  ·have hle:i0 < i:=h3.1 rfl
   have hrl:(qav l i0 2 l[i0].length i).length=i:=qoV hle h1
   have hrt:(qav l i0 2 l[i0].length i).take i=qav l i0 2 l[i0].length i:=List.take_of_length_le (by omega)
   try refine zW ?_
   by_cases hl':i < l.length
   ·have e:l.drop i=l[i]::l.drop (i+1):=List.drop_eq_getElem_cons hl'
    have e2:qav l i0 2 l[i0].length (i+1)=qav l i0 2 l[i0].length i++ [(eMs l[i]).map .p]:=qnk hle hl'
    (try simp (disch:=omega) only [go_sem,simprocAttr,zD,zE,e])
    (refine at_g 200 ?_;refine zW ?_;refine callG_of [0] (qjA l[i] (l.drop (i+1)) (hl _ (List.getElem_mem hl')) (by rw [List.length_drop];omega)) zU ?_)
    (try simp (disch:=omega) only [go_sem,simprocAttr,zD,zE,eMs,hrl,hrt])
    refine⟨(i+1,true), [3],⟨hl',⟨fun _=>by simp only;omega,fun _=>rfl⟩⟩,by simp only;omega,?_⟩
    constructor<;>(try simp (disch:=omega) only [go_sem,simprocAttr,zD,zE,e2,hrt,hrl,eMs,List.map_cons,List.map_nil])
   ·obtain rfl:i=l.length:=by omega
    have e:l.drop l.length= []:=List.drop_length
    (try simp (disch:=omega) only [go_sem,simprocAttr,zD,zE,e,hrl,hrt])
    have er:rnRw (rsel 1 [1,2]) (qav l i0 2 l[i0].length l.length)=qav l i0 2 l[i0].length l.length:=qnj
    refine⟨[1,2],by simp [geAll,qau,qau.nin],rfl,?_⟩
    refine⟨⟨rfl,rfl,?_⟩,?_⟩
    ·rw [er];exact qaO _
    ·exact⟨rfl,rfl,qaO _⟩
theorem qlO {l:List (List (Int × Int))} {i0 k i:Nat}:rnRw (rsel 0 [1,2]) (qav l i0 1 k i)=qav l i0 2 k i:=by
 unfold qav
 simp only [go_sem]
 rfl
theorem qlP {l:List (List (Int × Int))} {i0 k i:Nat}:rnRw (ridx [0] 1) (qav l i0 2 k i)=qav l i0 2 k i:=by
 unfold qav
 simp only [go_sem]
theorem qlE (l:List (List (Int × Int))) (i0:Nat) (h0:i0 < l.length) (hl: ∀x∈l,x.length≤1000000) (hn:l.length≤1000000):
  PG prog 227 [lMs l] [] 2 (.ref 0 l.length 0 l.length)
   [(0, .arr 1 l.length (qav l i0 1 l[i0].length l.length)),(1, .arr 2 0 (ir eII l[i0]))]:=by
 refine pg_of 200 (fn:=f227) func227 rfl (by simp [ntmps227]) 0 rfl zC zC zC zC zC fun hs=>?_
 try refine zW ?_
 (refine at_g 200 ?_;refine zW ?_;refine callG_of [0] (qoE l i0 h0 hl hn) zU ?_)
 (try simp (disch:=omega) only [go_sem,simprocAttr,zD,zE,qlP])
 refine⟨[1,2],by simp [geAll,qau,qau.nin],rfl,?_⟩
 refine⟨⟨rfl,rfl,?_⟩,?_⟩
 ·rw [qlO];exact qaO _
 ·exact⟨rfl,rfl,qaO _⟩
end Go.Proofs.NO
/-
 Calls with blocks, their arguments as they are (nil stays nil).
-/
namespace Go.Idl
variable {P:Program} {h0:IH}
section
variable {Q:Exit→qaa→Prop} {k:List It} {all:Array Oper} {r:List Oper} {dst:Option Tmp} {ty:TypeId} {pos:String} {aft:Array Edge} {N:Nat} {s:List (Nat × IV)} {d:List IDef} {nx:Nat} {l:List (Nat × IBlk)}
 {g:Option (Nat × Bool)} {f:Operand} {args:List Operand} {ts:List TypeId} {K:qaa→List FP→Prop} {acc:List FP}
theorem qhB (n:Nat)
  (h:qaq (qas (ev s) f args) (fun q=>(qai all s ⟨dst, .call {callee:= .value f,args:=⟨args⟩,argTypes:=⟨ts⟩},ty,pos,aft,g⟩=some true∧fnOk P q.1=true∧dOk N dst=true)∧
   qga P q.1 q.2 (look (l++h0.m)) nx fun x cnt W _=>vc P h0 Q n (.ops all r::k) ⟨N,putS dst x s,d,nx+cnt,W++l⟩) False):
  IRun P h0 (.ops all (⟨dst, .call {callee:= .value f,args:=⟨args⟩,argTypes:=⟨ts⟩},ty,pos,aft,g⟩::r)::k) ⟨N,s,d,nx,l⟩ Q:=by
 cases hc:qas (ev s) f args with
 | none=>rw [hc] at h;exact h.elim
 | some q=>
   rw [hc,qaj] at h
   obtain⟨⟨h1,h2,h3⟩,args',R,cnt,x,W,ids,p1,⟨p2,p3,p4⟩,p5⟩:=h
   have hw:wks q.2 (rnms (ridx ids nx) args'):=by rw [p2];exact wks_refl _
   refine iops_call (S:=⟨N,s,d,nx,l⟩) rfl h1 hc h2 (by cases dst<;>simp_all [dOk,qaE]) ((qe3 (p1.icall (hp:=⟨nx,l++h0.m⟩) p3 p4) hw).mono ?_)
   rintro e nx' l' ⟨rfl,rfl,rfl⟩
   simp only [qaT]
   exact vc_sound Q n _ _ p5
end
end Go.Idl
/-
 Families of blocks: a list of lists of which each row is held.
-/
namespace Go.Idl
variable {P:Program} {h0:IH}
section
variable {β:Type} {k k' n sz g:Nat} {e:β→List PV} {xs:List (Nat × List β)} {ρ:Nat→Nat}
section
variable {nx a b:Nat}
end
end
section
variable {β:Type} {k b sz:Nat} {e:β→List PV} {xs:List (Nat × List β)}
end
/-! ### cuts -/
section
variable {S:qaa} {m:List (Nat × IBlk)} {ids:List Nat} {nx nx0 k:Nat} {L:List IBlk} {r l':List (Nat × IBlk)}
@[go_sem] theorem qov: ∀ {l:List Nat},geAll 0 l=True
  | []=>rfl
  | _::_=>eq_true ⟨Nat.zero_le _,of_eq_true qov⟩
end
/-! ### ends -/
section
variable {fn:Func} {kk:Nat} {m:List (Nat × IBlk)} {c:Nat} {x:IV} {W:List (Nat × IBlk)} {N:Nat} {s:List (Nat × IV)} {nx:Nat} {l:List (Nat × IBlk)}
def shf (k s i:Nat):Nat:=if i < k then i else i+s
@[go_sem] theorem shf_10 {s:Nat}:shf 1 s 0=0:=rfl
end
/-! ### calls whose new blocks are numbered at will -/
section
variable {f:FuncId} {args:List IV} {c:Nat} {x:IV} {W:List (Nat × IBlk)}
variable {Q:Exit→qaa→Prop} {k:List It} {all:Array Oper} {r:List Oper} {dst:Option Tmp} {ty:TypeId} {pos:String} {aft:Array Edge} {N:Nat} {s:List (Nat × IV)} {d:List IDef} {nx:Nat} {l:List (Nat × IBlk)}
 {g:Option (Nat × Bool)} {fo:Operand} {asl:List Operand} {ts:List TypeId}
end
end Go.Idl
/- Lists of numbers of their own, all of them held. -/
namespace Go.Proofs.NO
open Go Go.Idl Go.Proofs Go.Proofs.Tryz
set_option maxHeartbeats 20000000
set_option maxRecDepth 100000
theorem qdZ {l:List (List (Int × Int))} {i0 k i:Nat}:rnRw (rsel 0 [2,3]) (qav l i0 1 k i)=qav l i0 3 k i:=by
 unfold qav
 simp only [go_sem]
 rfl
theorem qd0 {l:List (List (Int × Int))} {i0 k i:Nat}:rnRw (ridx [] 2) (qav l i0 1 k i)=qav l i0 3 k i:=by
 unfold qav
 simp only [go_sem]
theorem qpa (p:Hs) (h:gHs p) (i0:Nat) (h0:i0 < p.inn.length):PG prog 170 [qf6 p] [] 2
  (.agg [sci .i64 p.node,sci .i64 p.state,sci .i64 p.steps,nil0, .ref 0 p.inn.length 0 p.inn.length,lLs p.out])
  [(0, .arr 1 p.inn.length (qav p.inn i0 1 p.inn[i0].length p.inn.length)),(1, .arr 2 0 (ir eII p.inn[i0]))]:=by
 obtain⟨h2,h3,h4,h5⟩:=h
 refine pg_of 200 (fn:=f170) func170 rfl (by simp [ntmps170]) 0 rfl zC zC zC zC zC fun hs=>?_
 try refine zW ?_
 (refine zM [1,2,75] ?_;refine zI [none,none,none,none,none,none,none,none,some [0,1,2,3,4,5,9,10,12,13],none,none,some [0,1,2,3,4,5,12,13],none,none,some [0,1,2,3,4,5],none,some []] ?_)
 try refine zW ?_
 (refine qja ?_;refine zW ?_;refine callA_of (CloneI0_spec) zB ?_)
 try refine zW ?_
 (refine qaM ?_;refine zW ?_;refine callG_of [] (qlE p.inn i0 h0 h4 h2) zU ?_)
 try refine zW ?_
 (refine zF ?_;refine callA_of (qeb _ h5 h3) zB ?_)
 (try simp (maxSteps:=2000000) (disch:=omega) only [go_sem,simprocAttr,zD,zE,qd0])
 refine⟨[2,3],by simp [geAll,qau,qau.nin],rfl,?_⟩
 refine⟨⟨rfl,rfl,?_⟩,?_⟩
 ·rw [qdZ];exact qaO _
 ·exact⟨rfl,rfl,qaO _⟩
@[go_sem] theorem toldHs_eq {h:Hs}:qf6 h= .agg [sci .i64 h.node,sci .i64 h.state,sci .i64 h.steps,nil0,lMs h.inn,lLs h.out]:=(rfl)
theorem qox (h:Hs) (hg:gHs h) (i0:Nat) (h0:i0 < h.inn.length):PG prog 95 [lHs h] [] 2
  (.agg [sci .i64 h.node,sci .i64 h.state,sci .i64 h.steps, .ref 0 h.inn.length 0 h.inn.length,lLs h.out])
  [(0, .arr 1 h.inn.length (qav h.inn i0 1 h.inn[i0].length h.inn.length)),(1, .arr 2 0 (ir eII h.inn[i0]))]:=by
 refine pg_of 200 (fn:=f95) func95 rfl (by simp [ntmps95]) 0 rfl zC zC zC zC zC fun hs=>?_
 try refine zW ?_
 (refine zG ?_;refine callA_of (qfj h) zB ?_)
 try refine zW ?_
 (refine qhB 200 ?_;refine zW ?_;refine callG_of [] (qpa h hg i0 h0) zU ?_)
 (try simp (maxSteps:=2000000) (disch:=omega) only [go_sem,simprocAttr,zD,zE,qd0])
 refine⟨[2,3],by simp [geAll,qau,qau.nin],rfl,?_⟩
 refine⟨⟨rfl,rfl,?_⟩,?_⟩
 ·rw [qdZ];exact qaO _
 ·exact⟨rfl,rfl,qaO _⟩
def MsgP (last:Int) (x:Int × Int):Prop:=last < x.1∧x.1≤500∧0≤x.2∧x.2≤3
def RisP:Int→List (Int × Int)→Prop
 | _, []=>True
 | last,x::r=>MsgP last x∧RisP x.1 r
def qdh (l:List Int):Prop:= ∀(j:Nat) (x:Int),j < l.length→l[j]? =some x→0≤x∧x≤3
def ToldP (p:Pc):Prop:=0≤p.steps∧p.steps≤2147483647∧p.sent.length≤5∧p.inn.length≤5∧p.out.length≤5∧(∀(j:Nat) (x:Int),j < p.sent.length→p.sent[j]? =some x→0≤x∧x≤500)∧(∀(j:Nat) (l:List (Int × Int)),j < p.inn.length→p.inn[j]? =some l→RisP 0 l)∧ ∀(j:Nat) (l:List Int),j < p.out.length→p.out[j]? =some l→l.length≤500∧qdh l
def qaA (p:Pc):Prop:=(0≤p.node∧p.node≤5)∧(0≤p.state∧p.state≤7)∧ToldP p
theorem qbU (n m:Int):Pure prog 224 [sci .i64 n,sci .i64 m] (scb (tB (0≤n∧n≤m))):=by
 refine pcall0 200 (fn:=f224) func224 rfl (by simp [ntmps224]) zB zB fun hs=>?_
 try refine zW ?_
 by_cases h1:0≤n
 ·by_cases h2:n≤m
  ·have e:tB (0≤n∧n≤m)=true:=qal ⟨h1,h2⟩
   (try simp (disch:=omega) only [go_sem,simprocAttr,zD,zE,e])
  ·have e:tB (0≤n∧n≤m)=false:=qaf fun q=>h2 q.2
   (try simp (disch:=omega) only [go_sem,simprocAttr,zD,zE,e])
 ·have e:tB (0≤n∧n≤m)=false:=qaf fun q=>h1 q.1
  (try simp (disch:=omega) only [go_sem,simprocAttr,zD,zE,e])
theorem qmW (n:Int):Pure prog 226 [sci .i64 n] (scb (!tB (0≤n∧n≤3))):=by
 refine pcall0 200 (fn:=f226) func226 rfl (by simp [ntmps226]) zB zB fun hs=>?_
 try refine zW ?_
 (refine zG ?_;refine callA_of (qbU n 3) zB ?_)
 ((try refine zO ?_);(try with_reducible exact True.intro))
theorem qni (l:List (Int × Int)):Pure prog 225 [lII l] (scb (tB (RisP 0 l))):=by
 refine pcall0 200 (fn:=f225) func225 rfl (by simp [ntmps225]) zB zB fun hs=>?_
 simp only [go_sem,simprocAttr,maxLen] at hs
 obtain⟨ha, -⟩:=hs
 try refine zW ?_
 (refine walk_trim [3,6,7,8] trivial zL ?_;((try refine zW ?_);(try with_reducible exact True.intro)))
 refine qan 200 200 (fun s:Nat × Int=>s.1≤l.length∧(RisP s.2 (l.drop s.1)↔RisP 0 l)) (fun s=>⟨30, [(3,sci .i64 s.2),(6,lII l),(7,sci .i64 l.length),(8,sci .i64 s.1)], [],0, []⟩) (fun s=>l.length - s.1) (0,0) ?_ ?_ ?_
 ·simp
 ·constructor<;>(try simp (disch:=omega) only [go_sem,simprocAttr,zD,zE,Int.natCast_zero])
 ·rintro⟨i,last⟩ ⟨h1,h2⟩
  simp only at h1 h2
  try refine zW ?_
  by_cases hl:i < l.length
  ·have e0:l.drop i=l[i]::l.drop (i+1):=List.drop_eq_getElem_cons hl
   rw [e0] at h2
   (try simp (disch:=omega) only [go_sem,simprocAttr,zD,zE,eII])
   generalize l[i]=x at *
   obtain⟨sq,lt⟩:=x
   have bad: ¬MsgP last (sq,lt)→tB (RisP 0 l)=false:=fun q=>qaf fun h=>q (h2.2 h).1
   by_cases g1:sq≤last
   ·have e:=bad fun q=>by have:=q.1;simp only at this;omega
    (try simp (disch:=omega) only [go_sem,simprocAttr,zD,zE,g1,e])
   by_cases g2:500 < sq
   ·have e:=bad fun q=>by have:=q.2.1;simp only at this;omega
    (try simp (disch:=omega) only [go_sem,simprocAttr,zD,zE,g1,g2,e])
   (try simp (disch:=omega) only [go_sem,simprocAttr,zD,zE,g1,g2])
   (refine zG ?_;refine callA_of (qbU lt 3) zB ?_;try refine zW ?_)
   by_cases g3:0≤lt∧lt≤3
   ·have e:tB (0≤lt∧lt≤3)=true:=qal g3
    (try simp (disch:=omega) only [go_sem,simprocAttr,zD,zE,e])
    refine⟨(i+1,sq),⟨hl,⟨fun q=>h2.1 ⟨⟨by simp only;omega,by simp only;omega,g3⟩,q⟩,fun q=>(h2.2 q).2⟩⟩,by simp only;omega,?_⟩
    constructor<;>((try refine zO ?_);(try with_reducible exact True.intro))
   ·have e:tB (0≤lt∧lt≤3)=false:=qaf g3
    have e2:=bad fun q=>g3 q.2.2
    (try simp (disch:=omega) only [go_sem,simprocAttr,zD,zE,e,e2])
  ·obtain rfl:i=l.length:=by omega
   have e:tB (RisP 0 l)=true:=qal (h2.1 (by rw [List.drop_length];trivial))
   (try simp (disch:=omega) only [go_sem,simprocAttr,zD,zE,e])
abbrev fR1:IV:= .p (.sc (.func (.func 226) #[] #[]))
theorem qpA (l:List Int) (hk:l.length≤1000000):Pure prog 218 [lI l,fR1]
  (sci .i64 (qa9 (fun x=>!tB (0≤x∧x≤3)) 0 l)):=by
 refine pcall0 200 (fn:=f218) func218 rfl (by simp [ntmps218]) zB zB fun hs=>?_
 try refine zW ?_
 refine qac 200 200 (fun i:Nat=>i≤l.length∧qa9 (fun x=>!tB (0≤x∧x≤3)) i (l.drop i)=qa9 (fun x=>!tB (0≤x∧x≤3)) 0 l)
  (fun i=>⟨19, [(0,lI l),(1,fR1),(7,sci .i64 l.length),(8,sci .i64 i)], [],0, []⟩) (fun i=>l.length - i) (0) [] ?_ ?_ ?_
 ·simp
 ·constructor<;>(try simp (disch:=omega) only [go_sem,simprocAttr,zD,zE,Int.natCast_zero,List.take_of_length_le,List.append_assoc])
 ·rintro i hi
  obtain⟨hi,hinvi⟩:=hi
  try refine zW ?_
  by_cases li:i < l.length
  ·rw [qba li,qa9] at hinvi
   (try simp (disch:=omega) only [go_sem,simprocAttr,zD,zE,eI])
   (refine zG ?_;refine callA_of (qmW l[i]) zB ?_;try refine zW ?_)
   cases e:tB (0≤l[i]∧l[i]≤3)
   ·simp only [e,Bool.not_false,if_true] at hinvi
    (try simp (disch:=omega) only [go_sem,simprocAttr,zD,zE,←hinvi])
   ·simp only [e,Bool.not_true,Bool.false_eq_true,if_false] at hinvi
    try refine zO ?_
    refine⟨i+1, [],⟨by first | assumption | omega,hinvi⟩,?_,?_⟩
    ·(try simp only []);omega
    ·constructor<;>(try simp (disch:=omega) only [go_sem,simprocAttr,zD,zE,List.append_assoc])
  ·obtain rfl:i=l.length:=by omega
   rw [List.drop_length] at hinvi
   (try simp (disch:=omega) only [go_sem,simprocAttr,zD,zE,←hinvi,qa9])
theorem qpv (l:List Int) (hk:l.length≤1000000):Pure prog 148 [lI l,fR1] (scb (!tB (qdh l))):=by
 have e:decide (0≤qa9 (fun x=>!tB (0≤x∧x≤3)) 0 l)= !tB (qdh l):=by
  rw [ql0,←qf5]
  refine qcj ?_
  rw [qdz]
  constructor
  ·rintro⟨x,hx,h⟩ q
   obtain⟨j,hj,rfl⟩:=List.getElem_of_mem hx
   have:=q j _ hj (List.getElem?_eq_getElem hj)
   rw [qal this] at h;cases h
  ·intro h
   refine Classical.byContradiction fun q=>h fun j x _ hx=>?_
   have hm:x∈l:=List.mem_of_getElem? hx
   refine Classical.byContradiction fun q2=>q ⟨x,hm,?_⟩
   rw [qaf q2];rfl
 refine pcall0 200 (fn:=f148) func148 rfl (by simp [ntmps148]) zB zB fun hs=>?_
 try refine zW ?_
 (refine zG ?_;refine callA_of (qpA l hk) zB ?_)
 (try simp (disch:=omega) only [go_sem,simprocAttr,zD,zE,e])
theorem qnf (h:Pc) (hg:gPc h):Pure prog 168 [lPc h] (scb (tB (qaA h))):=by
 obtain⟨node,state,steps,sent,inn,out⟩:=h
 obtain⟨b1,b2,b3,b4,b5⟩:=hg
 simp only at b1 b2 b3 b4 b5
 have bad: ∀ {q:Prop},(qaA ⟨node,state,steps,sent,inn,out⟩→q)→ ¬q→tB (qaA ⟨node,state,steps,sent,inn,out⟩)=false:=fun f g=>qaf fun h=>g (f h)
 refine pcall0 200 (fn:=f168) func168 rfl (by simp [ntmps168]) zB zB fun hs=>?_
 try refine zW ?_
 (refine zG ?_;refine callA_of (qbU node 5) zB ?_;try refine zW ?_)
 by_cases hn:0≤node∧node≤5
 rotate_left
 ·have en:tB (0≤node∧node≤5)=false:=qaf hn
  have e:=bad (fun q=>q.1) hn
  (try simp (maxSteps:=2000000) (disch:=omega) only [go_sem,simprocAttr,zD,zE,en,e])
 have en:tB (0≤node∧node≤5)=true:=qal hn
 (try simp (maxSteps:=2000000) (disch:=omega) only [go_sem,simprocAttr,zD,zE,en])
 (refine zG ?_;refine callA_of (qbU state 7) zB ?_;try refine zW ?_)
 by_cases hs:0≤state∧state≤7
 rotate_left
 ·have es:tB (0≤state∧state≤7)=false:=qaf hs
  have e:=bad (fun q=>q.2.1) hs
  (try simp (maxSteps:=2000000) (disch:=omega) only [go_sem,simprocAttr,zD,zE,es,e])
 have es:tB (0≤state∧state≤7)=true:=qal hs
 (try simp (maxSteps:=2000000) (disch:=omega) only [go_sem,simprocAttr,zD,zE,es])
 (refine zG ?_;refine callA_of (qbU steps 2147483647) zB ?_;try refine zW ?_)
 by_cases h1:0≤steps∧steps≤2147483647
 ·have e1:tB (0≤steps∧steps≤2147483647)=true:=qal h1
  by_cases h0:5 < sent.length
  ·have e:=bad (fun q=>q.2.2.2.2.1) (by simp only;omega)
   (try simp (maxSteps:=2000000) (disch:=omega) only [go_sem,simprocAttr,zD,zE,e1,e])
  by_cases h2:5 < inn.length
  ·have e:=bad (fun q=>q.2.2.2.2.2.1) (by simp only;omega)
   (try simp (maxSteps:=2000000) (disch:=omega) only [go_sem,simprocAttr,zD,zE,e1,e])
  by_cases h3:5 < out.length
  ·have e:=bad (fun q=>q.2.2.2.2.2.2.1) (by simp only;omega)
   (try simp (maxSteps:=2000000) (disch:=omega) only [go_sem,simprocAttr,zD,zE,e1,e])
  (try simp (maxSteps:=2000000) (disch:=omega) only [go_sem,simprocAttr,zD,zE,e1])
  (refine walk_trim [1,40,41,42] trivial zL ?_;((try refine zW ?_);(try with_reducible exact True.intro)))
  refine qac 200 200 (fun i:Nat=>i≤sent.length∧ ∀(k:Nat) (x:Int),k < i→sent[k]? =some x→0≤x∧x≤500)
   (fun i=>⟨77, [(1, .ptr 0 0 0 0),(40,lI sent),(41,sci .i64 sent.length),(42,sci .i64 i)], [],1, [(0, .arr 6 0 [[sci .i64 node,sci .i64 state,sci .i64 steps,lI sent,lMs inn,lLs out]])]⟩) (fun i=>sent.length - i) (0) [] ?_ ?_ ?_
  ·simp
  ·constructor<;>(try simp (maxSteps:=2000000) (disch:=omega) only [go_sem,simprocAttr,zD,zE,Int.natCast_zero,List.take_of_length_le,List.append_assoc])
  ·rintro i hi
   obtain⟨hi,hinvi⟩:=hi
   try refine zW ?_
   by_cases li:i < sent.length
   ·have sn:=qa0 li hinvi
    have bd: ¬(0≤sent[i]∧sent[i]≤500)→tB (qaA ⟨node,state,steps,sent,inn,out⟩)=false:=fun q=>qaf fun h=>q (h.2.2.2.2.2.2.2.1 i _ li (List.getElem?_eq_getElem li))
    (try simp (maxSteps:=2000000) (disch:=omega) only [go_sem,simprocAttr,zD,zE,eI])
    (refine zG ?_;refine callA_of (qbU sent[i] 500) zB ?_;try refine zW ?_)
    by_cases g:0≤sent[i]∧sent[i]≤500
    ·have e:=qal g
     (try simp (maxSteps:=2000000) (disch:=omega) only [go_sem,simprocAttr,zD,zE,e])
     refine⟨i+1, [],⟨li,sn g⟩,by omega,?_⟩
     constructor<;>((try refine zO ?_);(try with_reducible exact True.intro))
    ·have e:=qaf g
     have e2:=bd g
     (try simp (maxSteps:=2000000) (disch:=omega) only [go_sem,simprocAttr,zD,zE,e,e2])
   ·obtain rfl:i=sent.length:=by omega
    try refine zO ?_
    (refine walk_trim [1,51,52,53] trivial zL ?_;((try refine zW ?_);(try with_reducible exact True.intro)))
    refine qac 200 200 (fun j:Nat=>j≤inn.length∧ ∀(k:Nat) (l:List (Int × Int)),k < j→inn[k]? =some l→RisP 0 l)
     (fun j=>⟨77, [(1, .ptr 0 0 0 0),(51,lMs inn),(52,sci .i64 inn.length),(53,sci .i64 j)], [],1, [(0, .arr 6 0 [[sci .i64 node,sci .i64 state,sci .i64 steps,lI sent,lMs inn,lLs out]])]⟩) (fun j=>inn.length - j) (0) [] ?_ ?_ ?_
    ·simp
    ·constructor<;>(try simp (maxSteps:=2000000) (disch:=omega) only [go_sem,simprocAttr,zD,zE,Int.natCast_zero,List.take_of_length_le,List.append_assoc])
    ·rintro j hj
     obtain⟨hj,hinvj⟩:=hj
     try refine zW ?_
     by_cases lj:j < inn.length
     ·have sn:=qa0 lj hinvj
      have bd: ¬RisP 0 inn[j]→tB (qaA ⟨node,state,steps,sent,inn,out⟩)=false:=fun q=>qaf fun h=>q (h.2.2.2.2.2.2.2.2.1 j _ lj (List.getElem?_eq_getElem lj))
      (try simp (maxSteps:=2000000) (disch:=omega) only [go_sem,simprocAttr,zD,zE,eMs])
      (refine zG ?_;refine callA_of (qni inn[j]) zB ?_;try refine zW ?_)
      by_cases g:RisP 0 inn[j]
      ·have e:=qal g
       (try simp (maxSteps:=2000000) (disch:=omega) only [go_sem,simprocAttr,zD,zE,e])
       refine⟨j+1, [],⟨lj,sn g⟩,by omega,?_⟩
       constructor<;>((try refine zO ?_);(try with_reducible exact True.intro))
      ·have e:=qaf g
       have e2:=bd g
       (try simp (maxSteps:=2000000) (disch:=omega) only [go_sem,simprocAttr,zD,zE,e,e2])
     ·obtain rfl:j=inn.length:=by omega
      try refine zO ?_
      (refine walk_trim [7,62,63,64] trivial zL ?_;((try refine zW ?_);(try with_reducible exact True.intro)))
      refine qac 200 200 (fun k:Nat=>k≤out.length∧ ∀(m:Nat) (l:List Int),m < k→out[m]? =some l→l.length≤500∧qdh l)
       (fun k=>⟨77, [(7,fR1),(62,lLs out),(63,sci .i64 out.length),(64,sci .i64 k)], [],1, [(0, .arr 6 0 [[sci .i64 node,sci .i64 state,sci .i64 steps,lI sent,lMs inn,lLs out]])]⟩) (fun k=>out.length - k) (0) [] ?_ ?_ ?_
      ·simp
      ·constructor<;>(try simp (maxSteps:=2000000) (disch:=omega) only [go_sem,simprocAttr,zD,zE,Int.natCast_zero,List.take_of_length_le,List.append_assoc])
      ·rintro k hk
       obtain⟨hk,hinvk⟩:=hk
       try refine zW ?_
       by_cases lk:k < out.length
       ·have sn:=qa0 lk hinvk
        have bd: ¬(out[k].length≤500∧qdh out[k])→tB (qaA ⟨node,state,steps,sent,inn,out⟩)=false:=fun q=>qaf fun h=>q (h.2.2.2.2.2.2.2.2.2 k _ lk (List.getElem?_eq_getElem lk))
        have ho:=b5 out[k] (List.getElem_mem lk)
        (try simp (maxSteps:=2000000) (disch:=omega) only [go_sem,simprocAttr,zD,zE,eLs])
        generalize out[k]=x at *
        by_cases g1:500 < x.length
        ·have e2:=bd fun q=>by have:=q.1;omega
         (try simp (maxSteps:=2000000) (disch:=omega) only [go_sem,simprocAttr,zD,zE,e2])
        try refine zO ?_
        (refine zG ?_;refine callA_of (qpv x ho) zB ?_;try refine zW ?_)
        by_cases g:qdh x
        ·have e:=qal g
         (try simp (maxSteps:=2000000) (disch:=omega) only [go_sem,simprocAttr,zD,zE,e])
         refine⟨k+1, [],⟨lk,sn ⟨by omega,g⟩⟩,by omega,?_⟩
         constructor<;>((try refine zO ?_);(try with_reducible exact True.intro))
        ·have e:=qaf g
         have e2:=bd fun q=>g q.2
         (try simp (maxSteps:=2000000) (disch:=omega) only [go_sem,simprocAttr,zD,zE,e,e2])
       ·obtain rfl:k=out.length:=by omega
        have e:tB (qaA ⟨node,state,steps,sent,inn,out⟩)=true:=qal ⟨hn,hs,h1.1,h1.2,by simp only;omega,by simp only;omega,by simp only;omega,hinvi,hinvj,hinvk⟩
        (try simp (maxSteps:=2000000) (disch:=omega) only [go_sem,simprocAttr,zD,zE,e])
 ·have e1:tB (0≤steps∧steps≤2147483647)=false:=qaf h1
  have e:=bad (fun q=>⟨q.2.2.1,q.2.2.2.1⟩) h1
  (try simp (maxSteps:=2000000) (disch:=omega) only [go_sem,simprocAttr,zD,zE,e1,e])
end Go.Proofs.NO
