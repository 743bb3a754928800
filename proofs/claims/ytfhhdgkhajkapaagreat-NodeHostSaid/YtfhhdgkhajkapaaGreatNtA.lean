/- Facts leant on. -/
import Derived.Test.YtfhhdgkhajkapaaGreatNNb
import Derived.Test.YtfhhdgkhajkapaaGreatNPS
import Derived.Test.YtfhhdgkhajkapaaGreatNxDd
import Derived.Test.YtfhhdgkhajkapaaGreatGP
import Derived.Test.YtfhhdgkhajkapaaGreatNGa
import Derived.Test.YtfhhdgkhajkapaaGreatNTypes
import Derived.Test.YtfhhdgkhajkapaaGreatNPC
set_option linter.all false
open True renaming intro->Ka
open Int renaming toNat_natCast->Kb
open List renaming getElem?_eq_getElem->Kc,take_of_length_le->Kd
open Option renaming none->U
/- A mark takes a message. -/
namespace Go.Proofs.NO
open Go Go.Idl Go.Proofs Go.GP Go.Proofs.Tryz
set_option maxHeartbeats 0
set_option maxRecDepth 100000
def qqs(p:Pc)(h:gPc p)(i0:Nat)(h0:i0 < p.inn.length):PG prog 170 [lPc p] [] 2
  (.agg [sci .i64 p.node,sci .i64 p.state,sci .i64 p.steps,lI p.sent, .ref 0 p.inn.length 0 p.inn.length,lLs p.out])
  [(0, .arr 1 p.inn.length (qav p.inn i0 1 p.inn[i0].length p.inn.length)),(1, .arr 2 0 (ir eII p.inn[i0]))]:=by
 obtain⟨h1,h2,h3,h4,h5⟩:=h;refine zAh func170 0 λhs=>?_;(refine zM [1,2,75] ?_;refine zI [U,U,U,U,U,U,U,U,some [0,1,2,3,4,5,9,10,12,13],U,U,some [0,1,2,3,4,5,12,13],U,U,some [0,1,2,3,4,5],U,some []] ?_);refine zV ?_;(refine zF ?_;refine qaa (CloneI_spec _ h1) zB ?_);refine zV ?_;(refine qbI ?_;refine zW ?_;refine callG_of [] (qlP p.inn i0 h0 h4 h2) zU ?_);refine zV ?_;(refine zF ?_;refine qaa (qex _ h5 h3) zB ?_);refine zS @qek ?_;refine⟨[2,3],⟨rfl,wU⟩,rfl,?_⟩;refine⟨⟨rfl,rfl,?_⟩,?_⟩
 .rw[qej];exact qaB _
 .exact⟨rfl,rfl,qaB _⟩
def ql1{l:List (List (Int × Int))}{i0 a b k i:Nat}:rnRw (rsel 0 [a,b]) (qav l i0 1 k i)=qav l i0 b k i:=by
 unfold qav;simp only[go_sem];rfl
def qri(m:Mk)(hg:gPc m.p)(ho:m.opn.length<=1000000)(i0:Nat)(h0:i0 < m.p.inn.length):PG prog 294 [lMk m] [] 2
  (.agg [sci .i64 m.epoch,lBo m.opn,sci .i64 m.p.node,sci .i64 m.p.state,sci .i64 m.p.steps,lI m.p.sent, .ref 0 m.p.inn.length 0 m.p.inn.length,lLs m.p.out])
  [(0, .arr 1 m.p.inn.length (qav m.p.inn i0 1 m.p.inn[i0].length m.p.inn.length)),(1, .arr 2 0 (ir eII m.p.inn[i0]))]:=by
 refine zAg func294 0 λhs=>?_;(try simp(maxSteps:=2000000) (disch:=omega) only[go_sem,simprocAttr,zD,zE,maxLen]);refine zN [1,2,3,77] [U,U,U,U,U,some [0,1,2],U,some []] ?_;(refine qbI ?_;refine zW ?_;refine callG_of [] (qqs m.p hg i0 h0) zU ?_);refine zS @qgG ?_;refine⟨[3,4],⟨rfl,wU⟩,⟨rfl,rfl⟩,?_⟩;refine⟨⟨rfl,rfl,?_⟩,?_⟩
 .rw[ql1];exact qaB _
 .exact⟨rfl,rfl,qaB _⟩
def qpM(m:Mk)(a:Int)(x:Int × Int)(hg:gPc m.p)(ho:m.opn.length=m.p.inn.length)(hi: ∀l∈m.p.inn,l.length<=999999):
  Pure prog 241 [lMk m,sci .i64 a, .agg [sci .i64 x.1,sci .i64 x.2]] (lMk (appM m a x)):=by
 have hil:=hg.inn;refine zAa func241 λhs=>?_;refine zP ?_;by_cases c1:a < 0
 .have z:appM m a x=m:=by unfold appM;rw[if_pos (.inl c1)]
  rw[z];(refine zG ?_;refine qaa (qfs m a) zB ?_);exact zy c1
 by_cases c2:(m.opn.length:Int)<=a
 .have z:appM m a x=m:=by unfold appM;rw[if_pos (.inr (.inl c2))]
  rw[z];(refine zG ?_;refine qaa (qfs m a) zB ?_);exact zy (zQ c1 c2)
 obtain⟨k,rfl⟩:=Int.eq_ofNat_of_zero_le (show 0<=a by omega);have hk:k < m.opn.length:=wa
 have hk2:k < m.p.inn.length:=wa
 by_cases c3:m.opn[k]=true
 rotate_left
 .have c3':m.opn[k]=false:=by simpa using c3
  have z:appM m k x=m:=by unfold appM;rw[if_pos (.inr (.inr (by rw[Kb,Kc hk,c3'];simp)))]
  rw[z];(refine zG ?_;refine qaa (qfs m k) zB ?_);(try simp(maxSteps:=2000000) (disch:=omega) only[go_sem,simprocAttr,zD,zE,c1,c2,eB,c3'])
 have z:appM m k x=⟨m.epoch,m.opn,⟨m.p.node,m.p.state,m.p.steps,m.p.sent,m.p.inn.set k (m.p.inn[k]++ [x]),m.p.out⟩⟩:=by
  unfold appM;rw[if_neg (by rw[Kb,Kc hk,c3];intro q;rcases q with q | q | q;omega;omega;exact q rfl)];rw[Kb,Kc hk2,Option.getD_some]
 rw[z];have hik:=hi _ (List.getElem_mem hk2);have hgo:=qri m hg wa k hk2;generalize m.p.inn[k]=row at hgo hik ⊢;(refine zG ?_;refine qaa (qfs m k) zB ?_);(try simp(maxSteps:=2000000) (disch:=omega) only[go_sem,simprocAttr,zD,zE,c1,c2,eB,c3]);obtain⟨x1,x2⟩:=x;have hg1:=qiA (l:=m.p.inn) (i0:=k) (b:=4) (n:=row.length) (i:=m.p.inn.length) hk2;have hset:=qiB (l:=m.p.inn) (i0:=k) (b:=4) (n:=row.length) hk2 (x:=row++ [(x1,x2)]);have hnt:(ir eII (row++ [(x1,x2)])).take (row.length+1)=ir eII (row++ [(x1,x2)]):=Kd wA;have hsn:ir eII (row++ [(x1,x2)])=ir eII row++ [[sci .i64 x1,sci .i64 x2]]:=by rw[ir_snoc];rfl
 (refine at_g 200 ?_;refine zW ?_;refine callG_of [] (hgo) zU ?_);refine zS @qgG ?_;refine zM [1,5,6,8,77] ?_;refine irun_walk (id:=5) (n:=0) [U,U,U,U,U,U,U,U,U,U,U,some [0,1,2,3,4,5,6,7,8,9],some [0,1,2,3],U,some []] mixed we ?_;refine zS hg1 ?_;rw[qe5];refine qbf 200 [4] ⟨41, [(6, .ptr 2 0 0 0),(8, .ptr 5 0 0 0)], [],6,
  [(5, .arr 8 0 [[sci .i64 m.epoch,lBo m.opn,sci .i64 m.p.node,sci .i64 m.p.state,sci .i64 m.p.steps,lI m.p.sent, .ref 3 m.p.inn.length 0 m.p.inn.length,lLs m.p.out]]),(3, .arr 1 m.p.inn.length (ir eMs (m.p.inn.set k (row++ [(x1,x2)])))),
   (2, .arr 8 0 [[sci .i64 0,nil0,sci .i64 0,sci .i64 0,sci .i64 0,nil0,nil0,nil0]])]⟩ trivial ?_ ?_
 .constructor
  case blks=>
   refine zP ?_;rw[<-hset];refine qln ?_;refine zP ?_;erw[<-hsn,hnt];exact zU
  all_goals exact zU
 refine zP ?_;rw[Kd wb]
end Go.Proofs.NO
/- The document's graph: what each of its functions answers. -/
namespace Go.Proofs.NO
open Go Go.Idl Go.Proofs Go.GP Go.Proofs.Tryz
set_option maxHeartbeats 1000000
set_option maxRecDepth 100000
end Go.Proofs.NO
/- The functions of the tree and of its reference: what each answers. -/
namespace Go.Proofs.NO
open Go Go.Idl Go.Proofs Go.Proofs.Tryz
set_option maxHeartbeats 400000
set_option maxRecDepth 100000
abbrev eT(e u w:Int)(k:List Int):IV:= .agg [sci .i64 e,sci .i64 u,sci .i64 w,lI k]
def qn4(e o:Int):Pure prog 192 [sci .i64 e,sci .i64 o] (eT e (-1) (if o < 0 then 0 else o) []):=by
 refine zAa func192 λhs=>?_;(repeat(first | ((refine zW ?_;try with_reducible exact Ka))))
def qbJ(e u w:Int)(k:List Int)(x:Int):Pure prog 295 [eT e u w k,sci .i64 x] (scb (e==x)):=by
 refine zAa func295 λhs=>?_;(repeat(first | ((refine zW ?_;try with_reducible exact Ka))))
def qcn(e u w:Int)(k:List Int)(x:Int):Pure prog 251 [eT e u w k,sci .i64 x] (scb (e==x && decide (w < 1))):=by
 refine zAa func251 λhs=>?_;(repeat(first | ((refine zW ?_;try with_reducible exact Ka)) | (refine zG ?_;refine qaa (qbJ _ _ _ _ _) zB ?_;((try refine zW ?_);(try with_reducible exact Ka))) | (refine zF ?_;refine qaa (qbJ _ _ _ _ _) zB ?_;((try refine zW ?_);(try with_reducible exact Ka))) | (refine zG ?_;refine qaJ ?_;refine zW ?_;refine qa3 (qbJ _ _ _ _ _) wi ?_;((try refine zW ?_);(try with_reducible exact Ka))) | (refine zF ?_;refine qaJ ?_;refine zW ?_;refine qa3 (qbJ _ _ _ _ _) wi ?_;((try refine zW ?_);(try with_reducible exact Ka)))));cases hb:e==x<;>((try refine zW ?_);(try with_reducible exact Ka))
def qnN(e u w:Int)(k:List Int)(x l o:Int):Pure prog 244 [eT e u w k,sci .i64 x,sci .i64 l,sci .i64 o] (if e==x then .tup [eT e u w k,scb false] else .tup [eT x l (if o < 0 then 0 else o) [],scb true]):=by
 refine zAa func244 λhs=>?_;(repeat(first | ((refine zW ?_;try with_reducible exact Ka)) | (refine zG ?_;refine qaa (qbJ _ _ _ _ _) zB ?_;((try refine zW ?_);(try with_reducible exact Ka))) | (refine zF ?_;refine qaa (qbJ _ _ _ _ _) zB ?_;((try refine zW ?_);(try with_reducible exact Ka))) | (refine zG ?_;refine qaJ ?_;refine zW ?_;refine qa3 (qbJ _ _ _ _ _) wi ?_;((try refine zW ?_);(try with_reducible exact Ka))) | (refine zF ?_;refine qaJ ?_;refine zW ?_;refine qa3 (qbJ _ _ _ _ _) wi ?_;((try refine zW ?_);(try with_reducible exact Ka)))));cases hb:e==x<;>((try refine zW ?_);(try with_reducible exact Ka))
def qn8(e u w:Int)(k:List Int)(x l:Int)(y:Bool)(hw: -9223372036854775807<=w/\w<=9223372036854775807)(hk:k.length<=1000000000):Pure prog 246 [eT e u w k,sci .i64 x,sci .i64 l,scb y] (if(e==x && !decide (w < 1))=true then .tup [eT e u (w - 1) (k++if y then [l] else []),sci .i64 0] else .tup [eT 0 0 0 [],sci .i64 1]):=by
 refine zAa func246 λhs=>?_;(repeat(first | ((refine zW ?_;try with_reducible exact Ka)) | (refine zG ?_;refine qaa (qbJ _ _ _ _ _) zB ?_;((try refine zW ?_);(try with_reducible exact Ka))) | (refine zF ?_;refine qaa (qbJ _ _ _ _ _) zB ?_;((try refine zW ?_);(try with_reducible exact Ka))) | (refine zG ?_;refine qaJ ?_;refine zW ?_;refine qa3 (qbJ _ _ _ _ _) wi ?_;((try refine zW ?_);(try with_reducible exact Ka))) | (refine zF ?_;refine qaJ ?_;refine zW ?_;refine qa3 (qbJ _ _ _ _ _) wi ?_;((try refine zW ?_);(try with_reducible exact Ka)))));cases hb:e==x<;>((try refine zW ?_);(try with_reducible exact Ka))
 by_cases hc:w < 1<;>((try refine zO ?_);(try with_reducible exact Ka))
 cases y<;>((try refine zO ?_);(try with_reducible exact Ka))
end Go.Proofs.NO
