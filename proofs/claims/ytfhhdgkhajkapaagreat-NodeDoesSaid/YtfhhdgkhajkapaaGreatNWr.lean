/- Facts leant on. -/
import Derived.Test.YtfhhdgkhajkapaaGreatNxDh
import Derived.Test.YtfhhdgkhajkapaaGreatNPS
import Derived.Test.YtfhhdgkhajkapaaGreatNNb
import Derived.Test.YtfhhdgkhajkapaaGreatNTypes
import Derived.Test.YtfhhdgkhajkapaaGreatGN
import Derived.Test.YtfhhdgkhajkapaaGreatNPB
import Derived.Test.YtfhhdgkhajkapaaGreatNtA
import Derived.Test.YtfhhdgkhajkapaaGreatNGa
import Derived.Test.YtfhhdgkhajkapaaGreatNzP2
set_option linter.all false
open List renaming replicate->Ka,length_map->Kb,length_take->Kc,take_of_length_le->Kd
open Option renaming none->U
/- A node's first one; frames cut. -/
namespace Go.Proofs.NO
open Go Go.Idl Go.Proofs Go.GP Go.Proofs.Tryz
set_option maxHeartbeats 0
set_option maxRecDepth 100000
def qg6(N:Int)(ls:List (Int × Int))(T:List Nd)(ff:Bool)(n:Int)(m:Nat)(x:Nd)(hl:ls.length<=1000000)(hm:(m:Int)=if n < 0\/N<=n then 0 else n)(hx:T[m]? =some x):
  Pure prog 34 [lAp N ls T ff,sci .i64 n] (lNo (newN ⟨m,x.start,0,Ka (ins m 0 ls).length [],Ka (outs m 0 ls).length []⟩)):=by
 have h:=qrG N ls T ff 0 [] n m x hl hm hx;generalize Ka (ins m 0 ls).length []=A at *;generalize Ka (outs m 0 ls).length []=B at *;refine pcall0 200 (fn:=f34) func34 rfl (by simp[ntmps34]) zB zB λhs=>?_;refine zV ?_;(refine zG ?_;refine qaa (h) zB ?_);(try simp(disch:=omega) only[go_sem,simprocAttr,zD,zE,newN,zMk,zHu,zTr,zPc])
def cutF(f:Fm):Fm:=⟨f.kind,f.epoch,f.m,(f.ps.take 7).map qfM,f.init,f.num,f.count,f.path.take 8⟩
def mn8(n:Nat):(if(8:Int) < (n:Int) then(8:Int) else(n:Int))=((min n 8:Nat):Int):=vH
def qiB(f:Fm):Pure prog 35 [lFm f] (lFm (cutF f)):=by
 obtain⟨f1,f2,⟨f3,f4⟩,f5,f6,f7,f8,f9⟩:=f;obtain⟨Z,hZ⟩: ∃Z,Z=(f5.take 7).map qfM:=⟨_,rfl⟩;have hZl:Z.length=min f5.length 7:=by rw[hZ,Kb,Kc];omega
 have hZs: ∀(i:Nat) (li:i < f5.length),i < 7->Z.take (i+1)=Z.take i++ [qfM f5[i]]:=λi li l7=>by
  rw[hZ,List.take_succ_eq_append_getElem (by rw[Kb,Kc];omega),List.getElem_map,List.getElem_take]
 unfold cutF;simp only;rw[<-hZ];clear hZ;refine pcall0 200 (fn:=f35) func35 rfl (by simp[ntmps35]) zB zB λhs=>?_;refine zV ?_;(refine zM [1,2,88] ?_;refine zI [U,U,U,U,U,U,U,U,U,U,U,U,some [0,1,2,3,4,5,6,7,8,9,10,11,13,14,15,16,17,18,19,22],U,U,U,U,U,U,U,some [0,1,2,3,4,5,6,7,8,9,10,11,22],U,some [0,1,2,3,4,5,6,7,8,9,10,11,12,13,14,15,16,17,18,19,20,21],some []] ?_);(try simp(maxSteps:=2000000) (disch:=omega) only[go_sem,simprocAttr,zD,zE,mn8,Nat.sub_zero,List.drop_zero,tk_min,tk_len]);refine walk_ownB 3 0 4 6 trivial rfl rfl rfl (.inr rfl) ?_;simp only[List.set_cons_zero,List.set_cons_succ,Nat.reduceAdd];(refine walk_trim [1,2,3,4,88] trivial zL ?_;((try refine zW ?_);(try with_reducible exact True.intro)));refine qac 200 200 (λi:Nat=>i<=Z.length)
  (λi=>⟨50, [(1, .ptr 0 0 0 0),(2, .ptr 1 0 0 0),(3, .ptr 3 0 0 0),(4,sci .i64 i)], [],5, [(4, .arr 6 i (ir ePc (Z.take i))),(3, .arr 9 0 [[sci .i64 f1,sci .i64 f2,sci .i64 f3,sci .i64 f4, .ref 4 i 0 i,sci .i64 f6,sci .i64 f7,sci .i64 f8,lI (f9.take 8)]]),(1, .arr 9 0 [[sci .i64 0,sci .i64 0,sci .i64 0,sci .i64 0,nil0,sci .i64 0,sci .i64 0,sci .i64 0,nil0]]),(0, .arr 9 0 [[sci .i64 f1,sci .i64 f2,sci .i64 f3,sci .i64 f4,lPs f5,sci .i64 f6,sci .i64 f7,sci .i64 f8,lI f9]])]⟩) (λi=>Z.length - i) (0) [2] ?_ ?_ ?_
 .simp
 .constructor<;>(try simp(maxSteps:=2000000) (disch:=omega) only[go_sem,simprocAttr,zD,zE,Int.natCast_zero,Kd,List.append_assoc,List.take_zero,tk_self])
 .rintro i hi;refine zV ?_;by_cases li:i < Z.length
  .have l5:i < f5.length:=wa
   have l7:i < 7:=wa
   have hsn:=hZs i l5 l7;have hmn:min i Z.length=i:=wa
   have hti:(Z.take i).take i=Z.take i:=wR
   generalize hp:f5[i]=p at *;refine zP ?_;(refine zM [1,2,3,4,88] ?_;refine zI [U,U,U,U,U,U,U,some [0,1],some [0,1],some [],U,some []] ?_);(try simp(maxSteps:=2000000) (disch:=omega) only[go_sem,simprocAttr,zD,zE,ePc,hp]);(refine zF ?_;refine qaa (qp4 p) zB ?_);refine zS (zQ hmn hti) ?_;refine⟨i+1, [],li,wa,?_⟩;constructor
   case blks=>
    (try simp(maxSteps:=2000000) (disch:=omega) only[go_sem,simprocAttr,zD,zE,hmn,hti,hsn,ir_snoc,ePc])
   all_goals(try simp(maxSteps:=2000000) (disch:=omega) only[go_sem,simprocAttr,zD,zE,hmn,hti])
  .obtain rfl:i=Z.length:=wa
   rw[Kd (Nat.le_refl Z.length)];have hz:Z.take Z.length=Z:=List.take_length;rcases Nat.lt_or_ge Z.length f5.length with q | q
   ·(try simp(maxSteps:=2000000) (disch:=omega) only[go_sem,simprocAttr,zD,zE,hz])
   ·(try simp(maxSteps:=2000000) (disch:=omega) only[go_sem,simprocAttr,zD,zE,hz])
end Go.Proofs.NO
/- The fixed calls of layer 18. -/
namespace Go.Proofs.NO
open Go Go.Idl Go.Proofs Go.Proofs.Tryz
set_option maxHeartbeats 0
set_option maxRecDepth 100000
def qb8:Pure prog 33 [] (scb true):=ycallY 100000 (λ_=>false) (λ_=>false) wb
end Go.Proofs.NO
/- A call of a law of the node. -/
namespace Go.Proofs.NO
open Go Go.Idl Go.Proofs Go.GP Go.Proofs.Tryz
set_option maxHeartbeats 0
set_option maxRecDepth 100000
structure Op where
 kind:Int
 n:Int
 link:Int
 f:Fm
def eOpN(o:Op):List PV:= [.sc (.int .i64 o.kind), .sc (.int .i64 o.n), .sc (.int .i64 o.link), .sc (.int .i64 o.f.kind), .sc (.int .i64 o.f.epoch), .sc (.int .i64 o.f.m.1), .sc (.int .i64 o.f.m.2), .imm 6 (pr ePc o.f.ps), .sc (.int .i64 o.f.init), .sc (.int .i64 o.f.num), .sc (.int .i64 o.f.count), .imm 1 (pr eI o.f.path)]
abbrev lOps(l:List Op):IV:= .p (.imm 12 (pr eOpN l))
def qpo(f:Fm): ∀p∈(cutF f).ps,gPc p:=λp hp=>by
 obtain⟨q, -,rfl⟩:=List.mem_map.1 hp;exact quc q
end Go.Proofs.NO
/- How a list of a node's operations reads. -/
namespace Go.Proofs.YtfhhdgkhajkapaaGreat
open Go Go.Idl Go.Proofs Go.Proofs.Tryz
open Go.ChangeShapes Go.WideShapes Go.ChangeAt Go.RowKit
set_option maxRecDepth 100000
def qr2:qau prog 67 eII λ_=>True:=
 qau.map (qa8 (fs:= [_,_]) Tryz.underlying67 wb (qax rfl rfl qaX (qbs rfl rfl qaX))) id (λ_=>rfl) λ_ _=>trivial
def quq:qau prog 63 (λl:List (Int × Int)=> [.imm 2 (pr eII l)]) λ_=>True:=
 qau.map (qba (by_:=16) Tryz.underlying63 wb wh wb qr2) id (λ_=>rfl) λ_ _=>trivial
def op_ins:qau prog 38 (λl:List (List (Int × Int))=> [.imm 1 (pr NO.eMs l)]) λ_=>True:=
 qau.map (qba (by_:=24) Tryz.underlying38 wb wh wb quq) id (λ_=>rfl) λ_ _=>trivial
def qus:qau prog 43 (λl:List (List Int)=> [.imm 1 (pr NO.eLs l)]) λ_=>True:=
 qau.map (qba (by_:=24) Tryz.underlying43 wb wh wb qhG) id (λ_=>rfl) λ_ _=>trivial
def qtl:qau prog 75 NO.ePc λ_=>True:=
 qau.map (qa8 (fs:= [_,_,_,_,_,_]) Tryz.underlying75 wb (qax rfl rfl qaX (qax rfl rfl qaX (qax rfl rfl qaX (qax rfl rfl qhG (qax rfl rfl op_ins (qbs rfl rfl qus)))))))
  (λa=>(⟨a.1,a.2.1,a.2.2.1,a.2.2.2.1,a.2.2.2.2.1,a.2.2.2.2.2⟩:NO.Pc)) (λ_=>rfl) λ_ _=>trivial
def qr3:qau prog 82 (λl:List NO.Pc=> [.imm 6 (pr NO.ePc l)]) λ_=>True:=
 qau.map (qba (by_:=96) Tryz.underlying82 wb wh wb qtl) id (λ_=>rfl) λ_ _=>trivial
def qtg:qau prog 88 NO.eFm λ_=>True:=
 qau.map (qa8 (fs:= [_,_,_,_,_,_,_,_]) Tryz.underlying88 wb (qax rfl rfl qaX (qax rfl rfl qaX (qax rfl rfl qr2 (qax rfl rfl qr3 (qax rfl rfl qaX (qax rfl rfl qaX (qax rfl rfl qaX (qbs rfl rfl qhG)))))))))
  (λa=>(⟨a.1,a.2.1,a.2.2.1,a.2.2.2.1,a.2.2.2.2.1,a.2.2.2.2.2.1,a.2.2.2.2.2.2.1,a.2.2.2.2.2.2.2⟩:NO.Fm)) (λ_=>rfl) λ_ _=>trivial
def op_op:qau prog 91 NO.eOpN λ_=>True:=
 qau.map (qa8 (fs:= [_,_,_,_]) Tryz.underlying91 wb (qax rfl rfl qaX (qax rfl rfl qaX (qax rfl rfl qaX (qbs rfl rfl qtg)))))
  (λa=>(⟨a.1,a.2.1,a.2.2.1,a.2.2.2⟩:NO.Op)) (λ_=>rfl) λ_ _=>trivial
def qnf:qau prog 72 (λl:List NO.Op=> [.imm 12 (pr NO.eOpN l)]) λ_=>True:=
 qau.map (qba (by_:=128) Tryz.underlying72 wb wh wb op_op) id (λ_=>rfl) λ_ _=>trivial
end Go.Proofs.YtfhhdgkhajkapaaGreat
