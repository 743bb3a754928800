/- Facts leant on. -/
import Derived.Test.YtfhhdgkhajkapaaGreatNxDh
import Derived.Test.YtfhhdgkhajkapaaGreatNPS
import Derived.Test.YtfhhdgkhajkapaaGreatNNb
import Derived.Test.YtfhhdgkhajkapaaGreatNTypes
import Derived.Test.YtfhhdgkhajkapaaGreatGN
import Derived.Test.YtfhhdgkhajkapaaGreatNPC
import Derived.Test.YtfhhdgkhajkapaaGreatNtA
import Derived.Test.YtfhhdgkhajkapaaGreatNGa
import Derived.Test.YtfhhdgkhajkapaaGreatNzP2
import Derived.Test.YtfhhdgkhajkapaaGreatNNi
import Derived.Test.YtfhhdgkhajkapaaGreatNxDd
import Derived.Test.YtfhhdgkhajkapaaGreatNNg
import Derived.Test.YtfhhdgkhajkapaaGreatNNo
import Derived.Test.YtfhhdgkhajkapaaGreatIdFr
set_option linter.all false
open True renaming intro->Ka
open List renaming append_assoc->Kb,replicate->Kc,take_of_length_le->Kd,getElem_mem->Ke,length_map->Kf,length_take->Kg,getElem_of_mem->Kh
open Int renaming natCast_zero->Ki
open Option renaming none->U,some->V
open Bool renaming true->Y,false->O
/- A node's first one; frames cut. -/
namespace Go.Proofs.NO
open Go Go.Idl Go.Proofs Go.GP Go.Proofs.Tryz
set_option maxHeartbeats 0
set_option maxRecDepth 100000
def qpQ(N:Int)(ls:List (Int × Int))(T:List Nd)(ff:Bool)(n:Int)(m:Nat)(x:Nd)(hl:ls.length<=1000000)(hm:(m:Int)=if n < 0\/N<=n then 0 else n)(hx:T[m]? =V x):
  Pure prog 34 [lAp N ls T ff,sci .i64 n] (lNo (newN ⟨m,x.start,0,Kc (ins m 0 ls).length [],Kc (outs m 0 ls).length []⟩)):=by
 have h:=qpy N ls T ff 0 [] n m x hl hm hx;generalize Kc (ins m 0 ls).length []=A at *;generalize Kc (outs m 0 ls).length []=B at *;refine zAb func34 λhs=>?_;(refine zG ?_;refine qaa (h) zB ?_);(try simp(disch:=omega) only[go_sem,simprocAttr,if_pos,if_neg,w64,beqT,beqF,bneT,bneF,qai,qag,decide_eq_true,decide_eq_false,newN,zMk,zHu,zTr,zPc])
def cutF(f:Fm):Fm:=⟨f.kind,f.epoch,f.m,(f.ps.take 7).map qfi,f.init,f.num,f.count,f.path.take 8⟩
def mn8(n:Nat):(if(8:Int) < (n:Int) then(8:Int) else(n:Int))=((min n 8:Nat):Int):=by split<;>omega
def qnZ(f:Fm):Pure prog 35 [lFm f] (lFm (cutF f)):=by
 obtain⟨f1,f2,⟨f3,f4⟩,f5,f6,f7,f8,f9⟩:=f;obtain⟨Z,hZ⟩: ∃Z,Z=(f5.take 7).map qfi:=⟨_,rfl⟩;have hZl:Z.length=min f5.length 7:=by rw[hZ,Kf,Kg];omega
 have hZs: ∀(i:Nat) (li:i < f5.length),i < 7->Z.take (i+1)=Z.take i++ [qfi f5[i]]:=λi li l7=>by
  rw[hZ,List.take_succ_eq_append_getElem (by rw[Kf,Kg];omega),List.getElem_map,List.getElem_take]
 unfold cutF;simp only;rw[<-hZ];clear hZ;refine zAb func35 λhs=>?_;(refine zM [1,2,88] ?_;refine zI [U,U,U,U,U,U,U,U,U,U,U,U,V [0,1,2,3,4,5,6,7,8,9,10,11,13,14,15,16,17,18,19,22],U,U,U,U,U,U,U,V [0,1,2,3,4,5,6,7,8,9,10,11,22],U,V [0,1,2,3,4,5,6,7,8,9,10,11,12,13,14,15,16,17,18,19,20,21],V []] ?_);(try simp(maxSteps:=2000000) (disch:=omega) only[go_sem,simprocAttr,if_pos,if_neg,w64,beqT,beqF,bneT,bneF,qai,qag,decide_eq_true,decide_eq_false,mn8,Nat.sub_zero,List.drop_zero,tk_min,tk_len]);refine walk_ownB 3 0 4 6 trivial rfl rfl rfl (.inr rfl) ?_;simp only[List.set_cons_zero,List.set_cons_succ,Nat.reduceAdd];refine zM [1,2,3,4,88] ?_;refine qac 200 200 (λi:Nat=>i<=Z.length)
  (λi=>⟨50, [(1, .ptr 0 0 0 0),(2, .ptr 1 0 0 0),(3, .ptr 3 0 0 0),(4,sci .i64 i)], [],5, [(4, .arr 6 i (ir ePc (Z.take i))),(3, .arr 9 0 [[sci .i64 f1,sci .i64 f2,sci .i64 f3,sci .i64 f4, .ref 4 i 0 i,sci .i64 f6,sci .i64 f7,sci .i64 f8,lI (f9.take 8)]]),(1, .arr 9 0 [[sci .i64 0,sci .i64 0,sci .i64 0,sci .i64 0,nil0,sci .i64 0,sci .i64 0,sci .i64 0,nil0]]),(0, .arr 9 0 [[sci .i64 f1,sci .i64 f2,sci .i64 f3,sci .i64 f4,lPs f5,sci .i64 f6,sci .i64 f7,sci .i64 f8,lI f9]])]⟩) (λi=>Z.length - i) (0) [2] ?_ ?_ ?_
 .simp
 .constructor<;>(try simp(maxSteps:=2000000) (disch:=omega) only[go_sem,simprocAttr,if_pos,if_neg,w64,beqT,beqF,bneT,bneF,qai,qag,decide_eq_true,decide_eq_false,Ki,Kd,Kb,List.take_zero,tk_self])
 .rintro i hi;refine zV ?_;by_cases li:i < Z.length
  .have l5:i < f5.length:=wa
   have l7:i < 7:=wa
   have hsn:=hZs i l5 l7;have hmn:min i Z.length=i:=wa
   have hti:(Z.take i).take i=Z.take i:=wT
   generalize hp:f5[i]=p at *;refine zP ?_;(refine zM [1,2,3,4,88] ?_;refine zI [U,U,U,U,U,U,U,V [0,1],V [0,1],V [],U,V []] ?_);(try simp(maxSteps:=2000000) (disch:=omega) only[go_sem,simprocAttr,if_pos,if_neg,w64,beqT,beqF,bneT,bneF,qai,qag,decide_eq_true,decide_eq_false,ePc,hp]);(refine zF ?_;refine qaa (qnX p) zB ?_);(try simp(maxSteps:=2000000) (disch:=omega) only[go_sem,simprocAttr,if_pos,if_neg,w64,beqT,beqF,bneT,bneF,qai,qag,decide_eq_true,decide_eq_false,hmn,hti]);refine⟨i+1, [],li,wa,?_⟩;constructor
   case blks=>
    (try simp(maxSteps:=2000000) (disch:=omega) only[go_sem,simprocAttr,if_pos,if_neg,w64,beqT,beqF,bneT,bneF,qai,qag,decide_eq_true,decide_eq_false,hmn,hti,hsn,ir_snoc,ePc])
   all_goals(try simp(maxSteps:=2000000) (disch:=omega) only[go_sem,simprocAttr,if_pos,if_neg,w64,beqT,beqF,bneT,bneF,qai,qag,decide_eq_true,decide_eq_false,hmn,hti])
  .obtain rfl:i=Z.length:=wa
   rw[Kd (Nat.le_refl Z.length)];have hz:Z.take Z.length=Z:=List.take_length;rcases Nat.lt_or_ge Z.length f5.length with q | q
   ·(try simp(maxSteps:=2000000) (disch:=omega) only[go_sem,simprocAttr,if_pos,if_neg,w64,beqT,beqF,bneT,bneF,qai,qag,decide_eq_true,decide_eq_false,hz])
   ·(try simp(maxSteps:=2000000) (disch:=omega) only[go_sem,simprocAttr,if_pos,if_neg,w64,beqT,beqF,bneT,bneF,qai,qag,decide_eq_true,decide_eq_false,hz])
end Go.Proofs.NO
/- The fixed calls of layer 18. -/
namespace Go.Proofs.NO
open Go Go.Idl Go.Proofs Go.Proofs.Tryz
set_option maxHeartbeats 0
set_option maxRecDepth 100000
def qge:Pure prog 33 [] (scb Y):=ycallY 100000 (λ_=>O) (λ_=>O) we
end Go.Proofs.NO
/- A call of a law of the node. -/
namespace Go.Proofs.NO
open Go Go.Idl Go.Proofs Go.GP Go.Proofs.Tryz
set_option maxHeartbeats 0
set_option maxRecDepth 100000
structure Op where
 kind:Int
 n:Int
 link:Int
 f:Fm
def eOpN(o:Op):List PV:= [.sc (.int .i64 o.kind), .sc (.int .i64 o.n), .sc (.int .i64 o.link), .sc (.int .i64 o.f.kind), .sc (.int .i64 o.f.epoch), .sc (.int .i64 o.f.m.1), .sc (.int .i64 o.f.m.2), .imm 6 (pr ePc o.f.ps), .sc (.int .i64 o.f.init), .sc (.int .i64 o.f.num), .sc (.int .i64 o.f.count), .imm 1 (pr eI o.f.path)]
abbrev lOps(l:List Op):IV:= .p (.imm 12 (pr eOpN l))
def qrM(f:Fm): ∀p∈(cutF f).ps,gPc p:=λp hp=>by
 obtain⟨q, -,rfl⟩:=List.mem_map.1 hp;exact qr5 q
end Go.Proofs.NO
/- How a list of a node's operations reads. -/
namespace Go.Proofs.YtfhhdgkhajkapaaGreat
open Go Go.Idl Go.Proofs Go.Proofs.Tryz
open Go.ChangeShapes Go.WideShapes Go.ChangeAt Go.RowKit
set_option maxRecDepth 100000
def qpU:qar prog 67 eII λ_=>True:=
 qar.map (qa9 (fs:= [_,_]) Tryz.underlying67 we (qat rfl rfl qaX (qbr rfl rfl qaX))) id (λ_=>rfl) λ_ _=>trivial
def qsk:qar prog 63 (λl:List (Int × Int)=> [.imm 2 (pr eII l)]) λ_=>True:=
 qar.map (qba (by_:=16) Tryz.underlying63 we wh we qpU) id (λ_=>rfl) λ_ _=>trivial
def op_ins:qar prog 38 (λl:List (List (Int × Int))=> [.imm 1 (pr NO.eMs l)]) λ_=>True:=
 qar.map (qba (by_:=24) Tryz.underlying38 we wh we qsk) id (λ_=>rfl) λ_ _=>trivial
def qsm:qar prog 43 (λl:List (List Int)=> [.imm 1 (pr NO.eLs l)]) λ_=>True:=
 qar.map (qba (by_:=24) Tryz.underlying43 we wh we qg5) id (λ_=>rfl) λ_ _=>trivial
def qra:qar prog 75 NO.ePc λ_=>True:=
 qar.map (qa9 (fs:= [_,_,_,_,_,_]) Tryz.underlying75 we (qat rfl rfl qaX (qat rfl rfl qaX (qat rfl rfl qaX (qat rfl rfl qg5 (qat rfl rfl op_ins (qbr rfl rfl qsm)))))))
  (λa=>(⟨a.1,a.2.1,a.2.2.1,a.2.2.2.1,a.2.2.2.2.1,a.2.2.2.2.2⟩:NO.Pc)) (λ_=>rfl) λ_ _=>trivial
def qpV:qar prog 82 (λl:List NO.Pc=> [.imm 6 (pr NO.ePc l)]) λ_=>True:=
 qar.map (qba (by_:=96) Tryz.underlying82 we wh we qra) id (λ_=>rfl) λ_ _=>trivial
def qq5:qar prog 88 NO.eFm λ_=>True:=
 qar.map (qa9 (fs:= [_,_,_,_,_,_,_,_]) Tryz.underlying88 we (qat rfl rfl qaX (qat rfl rfl qaX (qat rfl rfl qpU (qat rfl rfl qpV (qat rfl rfl qaX (qat rfl rfl qaX (qat rfl rfl qaX (qbr rfl rfl qg5)))))))))
  (λa=>(⟨a.1,a.2.1,a.2.2.1,a.2.2.2.1,a.2.2.2.2.1,a.2.2.2.2.2.1,a.2.2.2.2.2.2.1,a.2.2.2.2.2.2.2⟩:NO.Fm)) (λ_=>rfl) λ_ _=>trivial
def op_op:qar prog 91 NO.eOpN λ_=>True:=
 qar.map (qa9 (fs:= [_,_,_,_]) Tryz.underlying91 we (qat rfl rfl qaX (qat rfl rfl qaX (qat rfl rfl qaX (qbr rfl rfl qq5)))))
  (λa=>(⟨a.1,a.2.1,a.2.2.1,a.2.2.2⟩:NO.Op)) (λ_=>rfl) λ_ _=>trivial
def op_ops:qar prog 72 (λl:List NO.Op=> [.imm 12 (pr NO.eOpN l)]) λ_=>True:=
 qar.map (qba (by_:=128) Tryz.underlying72 we wh we op_op) id (λ_=>rfl) λ_ _=>trivial
end Go.Proofs.YtfhhdgkhajkapaaGreat
/- The law NodeHost's closed facts, one by one. -/
namespace Go.Proofs.YtfhhdgkhajkapaaGreat
open Go Go.Idl Go.Proofs Go.Proofs.Tryz
set_option maxRecDepth 100000
open Go.ChangeShapes Go.WideShapes Go.ChangeAt Go.RowKit
def qan{a b:Bool}(ha:a=Y)(hb:b=Y):(a && b)=Y:=by rw[ha,hb];rfl
def qmq:Rows.nodeHostRow.wf (OpenSpec.ofChange Rows.nodeHostSpec)=Y:=we
def qmr:laidOutB Tryz.checked.prog=Y:=we
def qms:mapsRowed Tryz.checked.prog=Y:=we
def qmt:Tryz.f7.params.all (Tryz.checked.prog.readableRec ·)=Y:=we
def qmu:namedTie Tryz.checked.prog Rows.nodeHostRow.named Rows.nodeHostSpec.vars=Y:=we
def qmv:(Rows.nodeHostRow.stops== [])=Y:=we
def qmw:(Tryz.checked.prog.stops== [])=Y:=we
def qmx:(Rows.nodeHostRow.knobs== [])=Y:=we
def qmy:(Tryz.checked.prog.stopKnobs== [])=Y:=we
def qmz:(Rows.nodeHostRow.inPlace==Tryz.checked.prog.inPlace 7)=Y:=we
def qkv:(Rows.nodeHostRow.unfollowed==Tryz.checked.prog.unfollowed 7)=Y:=we
def qkw:(Rows.nodeHostRow.recurses==Tryz.checked.prog.recurses 7)=Y:=we
def qkx:(Rows.nodeHostRow.named==Tryz.checked.prog.varsNamed 7)=Y:=we
def qky:(Rows.nodeHostRow.maps==(Tryz.f7.params.toList++Rows.nodeHostSpec.plain.varTypes Tryz.checked.prog).any (Tryz.checked.prog.mapsRec ·))=Y:=we
def qkz:(Rows.nodeHostRow.ifaces==(Tryz.f7.params.toList++Rows.nodeHostSpec.plain.varTypes Tryz.checked.prog).any (Tryz.checked.prog.ifacesRec ·))=Y:=we
def qkA:(Rows.nodeHostRow.mapsOut==Tryz.checked.prog.mapsAmong Tryz.f7.resultTypes.toList)=Y:=we
def qkB:(Rows.nodeHostRow.loops==(Tryz.f7.params.toList++Rows.nodeHostSpec.plain.varTypes Tryz.checked.prog).any (Tryz.checked.prog.loopsFrom ·))=Y:=we
def qkC:(Rows.nodeHostRow.wideKeys==(Tryz.f7.params.toList++Rows.nodeHostSpec.plain.varTypes Tryz.checked.prog++Tryz.f7.resultTypes.toList).any (Tryz.checked.prog.wideKeysFrom ·))=Y:=we
def qkD:Rows.nodeHostSpec.vars.all (Tryz.checked.prog.varReadable ·)=Y:=we
def qkE:Tryz.f7.resultTypes.all (λt=>Tryz.checked.prog.readableRec t && decide (t < Tryz.checked.prog.types.size))=Y:=we
def qkF:(Rows.nodeHostRow.ifacesOut==Tryz.f7.resultTypes.toList.any (Tryz.checked.prog.ifacesRec ·))=Y:=we
def qkG:(Rows.nodeHostRow.loopsOut==Tryz.f7.resultTypes.toList.any (Tryz.checked.prog.loopsFrom ·))=Y:=we
def qkH:(Rows.nodeHostRow.plainKeys==Tryz.checked.prog.plainKeys)=Y:=we
def qkI:Rows.nodeHostRow.shortTexts.isNone=Y:=we
def qkJ:Tryz.checked.prog.stopsHeard=Y:=we
def qkK:Tryz.checked.prog.mayEnter=Y:=we
def qkL:(Rows.nodeHostRow.lifted==Tryz.checked.prog.liftsFinal)=Y:=we
def qkM:(Tryz.checked.prog.make==V Rows.nodeHostRow.make)=Y:=we
def qkN:(Rows.nodeHostRow.kinds==(if Rows.nodeHostRow.domain.isEmpty then [] else Tryz.f7.params.toList.map λt=>match Tryz.checked.prog.underlying t with | some (.int k)=>V k | _=>U))=Y:=we
def qkO:(Rows.nodeHostRow.pinned==Rows.nodeHostRow.pinnedBy)=Y:=we
def qkP:(Rows.nodeHostRow.veiled==(Tryz.f7.params.toList++Rows.nodeHostSpec.plain.varTypes Tryz.checked.prog++Tryz.f7.resultTypes.toList).any (Tryz.checked.prog.veiledRec ·))=Y:=we
def qkQ:Rows.nodeHostRow.veiledFits Tryz.checked.prog Tryz.f7.params.toList (Tryz.f7.params.toList++Rows.nodeHostSpec.plain.varTypes Tryz.checked.prog++Tryz.f7.resultTypes.toList)=Y:=we
def qiP:joinedFacts Tryz.checked.prog 7 Tryz.f7 Rows.nodeHostSpec Rows.nodeHostRow=Y:=qan (qan (qan (qan (qan (qan (qan (qan (qan (qan (qan (qan (qan (qan (qan (qan (qan (qan (qan (qan (qan (qan (qan (qan (qan (qan (qan (qan (qan (qan (qan (qmq) qmr) qms) qmt) qmu) qmv) qmw) qmx) qmy) qmz) qkv) qkw) qkx) qky) qkz) qkA) qkB) qkC) qkD) qkE) qkF) qkG) qkH) qkI) qkJ) qkK) qkL) qkM) qkN) qkO) qkP) qkQ
end Go.Proofs.YtfhhdgkhajkapaaGreat
namespace Go.Proofs.NO
open Go Go.Idl Go.Proofs Go.GP Go.GN Go.Proofs.Tryz
def kept(o:Ou):Bool:=!(o.f.kind==4 || o.f.kind==6)
def sameK(a b:Ou):Prop:=a.link=b.link/\a.f.kind=b.f.kind/\a.f.epoch=b.f.epoch
def evP:List Pc->List Ou->List Pc
 | p, []=>p
 | p,o::l=>evP (if o.f.kind=5 then o.f.ps else p) l
structure Onc(x:No)(d:Td):Prop where
 node:d.x.h.node=x.h.node
 te:x.t.epoch<=d.x.t.epoch
 td:x.told<=d.x.told
 len:d.out.length<=1000
 each: ∀o∈d.out,kept o=Y->(o.f.kind=5/\x.told < o.f.epoch/\o.f.epoch<=d.x.told)\/((1<=o.f.kind/\o.f.kind<=3)/\x.t.epoch < o.f.epoch/\o.f.epoch<=d.x.t.epoch)
 pw:d.out.Pairwise λa b=>kept a=Y->kept b=Y-> ¬sameK a b
 ps:evP d.ps d.out= []\/(UpN (evP d.ps d.out)/\(∃p∈evP d.ps d.out,p.node=x.h.node)/\x.told < d.x.told)
 pl:(evP d.ps d.out).length<=7
section
variable{N:Int}{ls:List (Int × Int)}{T:List Nd}{t:Int}{x:No}
theorem qqi{ff:Bool}{d:Td}(f:NOk N ls T t d.x)(hp:d.ps= [])(h:(qaz ls ff d).e=0):
  ∃a,(qaz ls ff d).out=d.out++a/\((a= []/\(qaz ls ff d).ps= []/\(qaz ls ff d).x=d.x)\/
   (d.x.told < d.x.t.epoch/\(qaz ls ff d).x=setTold d.x d.x.t.epoch/\ ∃P,UpN P/\(∃p∈P,p.node=d.x.h.node)/\P.length<=7/\
    ((a= []/\(qaz ls ff d).ps=P)\/((qaz ls ff d).ps= []/\ ∃l,a= [⟨l,⟨5,d.x.t.epoch,(0,0),P,0,0,0, []⟩⟩])))):=by
 unfold qaz at h ⊢;split
 .rename_i c;rw[if_pos c] at h;split
  .rename_i b;rw[if_pos b] at h;exact absurd h b
  rename_i b;obtain⟨i,g, -⟩:=c;have o:(ownP ff d.x).node=d.x.h.node:=by
   have:=f.td;cases ff
   .simp only[qdm,Bool.false_eq_true,if_false] at g;simp only[ownP,Bool.false_eq_true,if_false];exact f.un wa
   .simp only[qdm,if_true] at g;simp only[ownP,if_true];exact(f.ml (by have:=g.1;omega)).2
  obtain⟨r,j,k⟩:(mrg d.x.got [ownP ff d.x]).2=0/\(mrg d.x.got [ownP ff d.x]).1.Perm (d.x.got++ [ownP ff d.x])/\UpN (mrg d.x.got [ownP ff d.x]).1:=by
   rcases mrg_cases d.x.got [ownP ff d.x] with ⟨q,_⟩ | q<;>omega
  have m: ∃p∈(mrg d.x.got [ownP ff d.x]).1,p.node=d.x.h.node:=⟨_,j.mem_iff.2 (List.mem_append.2 (.inr (List.mem_singleton.2 rfl))),o⟩;have n:(mrg d.x.got [ownP ff d.x]).1.length<=7:=by
   rw[j.length_eq,List.length_append,List.length_singleton];have:=f.got6;omega
  grind
 .exact⟨[],wb, .inl ⟨rfl,hp,rfl⟩⟩
theorem qlB(ff):kindN ff=1\/kindN ff=2:=by cases ff<;>simp[kindN]
end
end Go.Proofs.NO
namespace Go.Proofs.NO
open Go Go.Idl Go.Proofs Go.GP Go.GN Go.Proofs.Tryz
variable{N:Int}{ls:List (Int × Int)}{T:List Nd}{t:Int}{x:No}{ff:Bool}{st:St}{link:Int}{f:Fm}
end Go.Proofs.NO
/- What the document's host tells; the first host. -/
namespace Go.Proofs.NO
open Go Go.Idl Go.Proofs Go.GP Go.Proofs.Tryz
set_option maxHeartbeats 0
set_option maxRecDepth 100000
def qcC(f:Fm)(hn:f.ps.length<=1000):Pure prog 42 [lFm f] (lFm f):=by
 obtain⟨f1,f2,⟨f3,f4⟩,f5,f6,f7,f8,f9⟩:=f;refine zAb func42 λhs=>?_;(refine zM [1,2,105] ?_;refine zI [U,U,U,U,U,U,U,U,V [0,1,2,3,4,5,9,10,11,12,13,14,15,16],U,U,U,U,U,U,U,U,U,V []] ?_);refine zV ?_;(refine zF ?_;refine qaa (qpb f5 hn) zB ?_);exact zT
def qmG(f:Fm):Pure prog 112 [lFm f] (scb (tB (qdy f))):=by
 obtain⟨f1,f2,⟨f3,f4⟩,f5,f6,f7,f8,f9⟩:=f;refine zAb func112 λhs=>?_;by_cases c6:f6=0
 rotate_left
 .have ez:tB (qdy ⟨f1,f2,(f3,f4),f5,f6,f7,f8,f9⟩)=O:=qah λq=>c6 (q.1)
  (try simp(maxSteps:=2000000) (disch:=omega) only[go_sem,simprocAttr,if_pos,if_neg,w64,beqT,beqF,bneT,bneF,qai,qag,decide_eq_true,decide_eq_false,ez])
 refine zP ?_;by_cases c7:f7=0
 rotate_left
 .have ez:tB (qdy ⟨f1,f2,(f3,f4),f5,f6,f7,f8,f9⟩)=O:=qah λq=>c7 (q.2.1)
  (try simp(maxSteps:=2000000) (disch:=omega) only[go_sem,simprocAttr,if_pos,if_neg,w64,beqT,beqF,bneT,bneF,qai,qag,decide_eq_true,decide_eq_false,ez])
 refine zP ?_;by_cases c8:f8=0
 rotate_left
 .have ez:tB (qdy ⟨f1,f2,(f3,f4),f5,f6,f7,f8,f9⟩)=O:=qah λq=>c8 (q.2.2.1)
  (try simp(maxSteps:=2000000) (disch:=omega) only[go_sem,simprocAttr,if_pos,if_neg,w64,beqT,beqF,bneT,bneF,qai,qag,decide_eq_true,decide_eq_false,ez])
 refine zP ?_;cases f9 with
 | nil=>
   have ez:tB (qdy ⟨f1,f2,(f3,f4),f5,f6,f7,f8, []⟩)=Y:=qap ⟨c6,c7,c8,rfl⟩;(try simp(maxSteps:=2000000) (disch:=omega) only[go_sem,simprocAttr,if_pos,if_neg,w64,beqT,beqF,bneT,bneF,qai,qag,decide_eq_true,decide_eq_false,ez])
 | cons a r=>
   have ez:tB (qdy ⟨f1,f2,(f3,f4),f5,f6,f7,f8,a::r⟩)=O:=qah λq=>by have:=q.2.2.2;cases this
   (try simp(maxSteps:=2000000) (disch:=omega) only[go_sem,simprocAttr,if_pos,if_neg,w64,beqT,beqF,bneT,bneF,qai,qag,decide_eq_true,decide_eq_false,ez])
def qk1(f:Fm):Pure prog 111 [lFm f] (scb (tB (qbm f))):=by
 obtain⟨f1,f2,⟨f3,f4⟩,f5,f6,f7,f8,f9⟩:=f;refine zAb func111 λhs=>?_;by_cases c2:f2=0
 rotate_left
 .have ez:tB (qbm ⟨f1,f2,(f3,f4),f5,f6,f7,f8,f9⟩)=O:=qah λq=>c2 (q.1)
  (try simp(maxSteps:=2000000) (disch:=omega) only[go_sem,simprocAttr,if_pos,if_neg,w64,beqT,beqF,bneT,bneF,qai,qag,decide_eq_true,decide_eq_false,ez])
 refine zP ?_;cases cm:(f3==0 && f4==0) with
 | false=>
   have ez:tB (qbm ⟨f1,f2,(f3,f4),f5,f6,f7,f8,f9⟩)=O:=qah λq=>by
    have:=q.2.1;simp only[Prod.mk.injEq] at this;rw[this.1,this.2] at cm;cases cm
   (try simp(maxSteps:=2000000) (disch:=omega) only[go_sem,simprocAttr,if_pos,if_neg,w64,beqT,beqF,bneT,bneF,qai,qag,decide_eq_true,decide_eq_false,cm,ez])
 | true=>
 obtain⟨rfl,rfl⟩:f3=0/\f4=0:=by simpa using cm
 (try simp(maxSteps:=2000000) (disch:=omega) only[go_sem,simprocAttr,if_pos,if_neg,w64,beqT,beqF,bneT,bneF,qai,qag,decide_eq_true,decide_eq_false,cm]);cases f5 with
 | cons a r=>
   have ez:tB (qbm ⟨f1,f2,(0,0),a::r,f6,f7,f8,f9⟩)=O:=qah λq=>by have:=q.2.2.1;cases this
   (try simp(maxSteps:=2000000) (disch:=omega) only[go_sem,simprocAttr,if_pos,if_neg,w64,beqT,beqF,bneT,bneF,qai,qag,decide_eq_true,decide_eq_false,ez])
 | nil=>
 refine zP ?_;by_cases a1:0<=f6
 rotate_left
 .have ez:tB (qbm ⟨f1,f2,(0,0), [],f6,f7,f8,f9⟩)=O:=qah λq=>a1 (q.2.2.2.1.1)
  (try simp(maxSteps:=2000000) (disch:=omega) only[go_sem,simprocAttr,if_pos,if_neg,w64,beqT,beqF,bneT,bneF,qai,qag,decide_eq_true,decide_eq_false,ez])
 refine zP ?_;by_cases a2:f6<=5
 rotate_left
 .have ez:tB (qbm ⟨f1,f2,(0,0), [],f6,f7,f8,f9⟩)=O:=qah λq=>a2 (q.2.2.2.1.2)
  (try simp(maxSteps:=2000000) (disch:=omega) only[go_sem,simprocAttr,if_pos,if_neg,w64,beqT,beqF,bneT,bneF,qai,qag,decide_eq_true,decide_eq_false,ez])
 refine zP ?_;by_cases a3:1<=f7
 rotate_left
 .have ez:tB (qbm ⟨f1,f2,(0,0), [],f6,f7,f8,f9⟩)=O:=qah λq=>a3 (q.2.2.2.2.1.1)
  (try simp(maxSteps:=2000000) (disch:=omega) only[go_sem,simprocAttr,if_pos,if_neg,w64,beqT,beqF,bneT,bneF,qai,qag,decide_eq_true,decide_eq_false,ez])
 refine zP ?_;by_cases a4:f7<=200
 rotate_left
 .have ez:tB (qbm ⟨f1,f2,(0,0), [],f6,f7,f8,f9⟩)=O:=qah λq=>a4 (q.2.2.2.2.1.2)
  (try simp(maxSteps:=2000000) (disch:=omega) only[go_sem,simprocAttr,if_pos,if_neg,w64,beqT,beqF,bneT,bneF,qai,qag,decide_eq_true,decide_eq_false,ez])
 refine zP ?_;by_cases a5:0<=f8
 rotate_left
 .have ez:tB (qbm ⟨f1,f2,(0,0), [],f6,f7,f8,f9⟩)=O:=qah λq=>a5 (q.2.2.2.2.2.1.1)
  (try simp(maxSteps:=2000000) (disch:=omega) only[go_sem,simprocAttr,if_pos,if_neg,w64,beqT,beqF,bneT,bneF,qai,qag,decide_eq_true,decide_eq_false,ez])
 refine zP ?_;by_cases a6:f8<=500
 rotate_left
 .have ez:tB (qbm ⟨f1,f2,(0,0), [],f6,f7,f8,f9⟩)=O:=qah λq=>a6 (q.2.2.2.2.2.1.2)
  (try simp(maxSteps:=2000000) (disch:=omega) only[go_sem,simprocAttr,if_pos,if_neg,w64,beqT,beqF,bneT,bneF,qai,qag,decide_eq_true,decide_eq_false,ez])
 refine zP ?_;by_cases a7:1<=f9.length
 rotate_left
 .have ez:tB (qbm ⟨f1,f2,(0,0), [],f6,f7,f8,f9⟩)=O:=qah λq=>a7 (q.2.2.2.2.2.2.1.1)
  (try simp(maxSteps:=2000000) (disch:=omega) only[go_sem,simprocAttr,if_pos,if_neg,w64,beqT,beqF,bneT,bneF,qai,qag,decide_eq_true,decide_eq_false,ez])
 refine zP ?_;by_cases a8:f9.length<=6
 rotate_left
 .have ez:tB (qbm ⟨f1,f2,(0,0), [],f6,f7,f8,f9⟩)=O:=qah λq=>a8 (q.2.2.2.2.2.2.1.2)
  (try simp(maxSteps:=2000000) (disch:=omega) only[go_sem,simprocAttr,if_pos,if_neg,w64,beqT,beqF,bneT,bneF,qai,qag,decide_eq_true,decide_eq_false,ez])
 refine zP ?_;refine zM [1,3] ?_;refine qac 200 200 (λi:Nat=>i<=f9.length/\ ∀j (hj:j < f9.length),j < i->0<=f9[j]/\f9[j]<=5)
  (λi=>⟨82, [(1, .ptr 0 0 0 0),(3,sci .i64 i)], [],1, [(0, .arr 9 0 [[sci .i64 f1,sci .i64 f2,sci .i64 0,sci .i64 0,lPs [],sci .i64 f6,sci .i64 f7,sci .i64 f8,lI f9]])]⟩) (λi=>f9.length - i) (0) [] ?_ ?_ ?_
 .simp
 .constructor<;>(try simp(maxSteps:=2000000) (disch:=omega) only[go_sem,simprocAttr,if_pos,if_neg,w64,beqT,beqF,bneT,bneF,qai,qag,decide_eq_true,decide_eq_false,Ki,Kd,Kb])
 .rintro i hi;obtain⟨hi,hinvi⟩:=hi;refine zV ?_;by_cases li:i < f9.length
  .by_cases ci:0<=f9[i]/\f9[i]<=5
   .obtain⟨ci1,ci2⟩:=ci;have hst: ∀j (hj:j < f9.length),j < i+1->0<=f9[j]/\f9[j]<=5:=λj hj hl=>by
     rcases Nat.lt_or_ge j i with q | q
     .exact hinvi j hj q
     .obtain rfl:j=i:=wa
      exact⟨ci1,ci2⟩
    (try simp(maxSteps:=2000000) (disch:=omega) only[go_sem,simprocAttr,if_pos,if_neg,w64,beqT,beqF,bneT,bneF,qai,qag,decide_eq_true,decide_eq_false,eI]);refine⟨i+1, [],⟨wd,hst⟩,?_,?_⟩
    ·(try simp only[]);omega
    .constructor<;>(try simp(maxSteps:=2000000) (disch:=omega) only[go_sem,simprocAttr,if_pos,if_neg,w64,beqT,beqF,bneT,bneF,qai,qag,decide_eq_true,decide_eq_false,Kb])
   .have ez:tB (qbm ⟨f1,f2,(0,0), [],f6,f7,f8,f9⟩)=O:=qah λq=>ci (q.2.2.2.2.2.2.2 _ (Ke li))
    by_cases cj:0<=f9[i]
    .have ck: ¬f9[i]<=5:=λq=>ci ⟨cj,q⟩
     (try simp(maxSteps:=2000000) (disch:=omega) only[go_sem,simprocAttr,if_pos,if_neg,w64,beqT,beqF,bneT,bneF,qai,qag,decide_eq_true,decide_eq_false,eI,ez])
    ·(try simp(maxSteps:=2000000) (disch:=omega) only[go_sem,simprocAttr,if_pos,if_neg,w64,beqT,beqF,bneT,bneF,qai,qag,decide_eq_true,decide_eq_false,eI,ez])
  .have ez:tB (qbm ⟨f1,f2,(0,0), [],f6,f7,f8,f9⟩)=Y:=qap ⟨c2,rfl,rfl,⟨a1,a2⟩,⟨a3,a4⟩,⟨a5,a6⟩,⟨a7,a8⟩,λx hx=>by
    obtain⟨j,hj,rfl⟩:=Kh hx;have hj':j < f9.length:=hj;exact hinvi j hj' wa⟩
   (try simp(maxSteps:=2000000) (disch:=omega) only[go_sem,simprocAttr,if_pos,if_neg,w64,beqT,beqF,bneT,bneF,qai,qag,decide_eq_true,decide_eq_false,ez])
def qbV(f:Fm)(hg: ∀p∈f.ps,gPc p):Pure prog 41 [lFm f] (scb (tB (FrP f))):=by
 obtain⟨f1,f2,⟨f3,f4⟩,f5,f6,f7,f8,f9⟩:=f;simp only at hg;refine zAa func41 λhs=>?_;simp(maxSteps:=2000000) only[go_sem,simprocAttr,maxLen] at hs;refine zV ?_;by_cases k6:f1=6
 .have ez:tB (FrP ⟨f1,f2,(f3,f4),f5,f6,f7,f8,f9⟩)=tB (qbm ⟨f1,f2,(f3,f4),f5,f6,f7,f8,f9⟩):=qcA ⟨λq=>by
   rcases q with q | q | q | q
   .exact q.2
   .have:=q.1;simp only at this;omega
   .have:=q.1;simp only at this;omega
   .have:=q.1;simp only at this;omega,λq=> .inl ⟨k6,q⟩⟩
  rw[ez];subst k6;refine zP ?_;(refine zG ?_;refine qaa (qk1 ⟨6,f2,(f3,f4),f5,f6,f7,f8,f9⟩) zB ?_;exact zT)
 refine zP ?_;by_cases k0:0<=f1
 rotate_left
 .have ez:tB (FrP ⟨f1,f2,(f3,f4),f5,f6,f7,f8,f9⟩)=O:=qah λq=>k0 wG
  (try simp(maxSteps:=2000000) (disch:=omega) only[go_sem,simprocAttr,if_pos,if_neg,w64,beqT,beqF,bneT,bneF,qai,qag,decide_eq_true,decide_eq_false,ez])
 refine zP ?_;by_cases k7:f1<=6
 rotate_left
 .have ez:tB (FrP ⟨f1,f2,(f3,f4),f5,f6,f7,f8,f9⟩)=O:=qah λq=>k7 wG
  (try simp(maxSteps:=2000000) (disch:=omega) only[go_sem,simprocAttr,if_pos,if_neg,w64,beqT,beqF,bneT,bneF,qai,qag,decide_eq_true,decide_eq_false,ez])
 refine zP ?_;(refine zG ?_;refine qaa (qmG ⟨f1,f2,(f3,f4),f5,f6,f7,f8,f9⟩) zB ?_;refine zV ?_);by_cases cb:qdy ⟨f1,f2,(f3,f4),f5,f6,f7,f8,f9⟩
 rotate_left
 .have ez:tB (FrP ⟨f1,f2,(f3,f4),f5,f6,f7,f8,f9⟩)=O:=qah λq=>by
   rcases q with q | q | q | q
   .have:=q.1;simp only at this;omega
   .exact cb q.2.1
   .exact cb q.2.1.1
   .exact cb q.2.1.1
  have eb:=qah cb;(try simp(maxSteps:=2000000) (disch:=omega) only[go_sem,simprocAttr,if_pos,if_neg,w64,beqT,beqF,bneT,bneF,qai,qag,decide_eq_true,decide_eq_false,ez,eb])
 have eb:=qap cb;(try simp(maxSteps:=2000000) (disch:=omega) only[go_sem,simprocAttr,if_pos,if_neg,w64,beqT,beqF,bneT,bneF,qai,qag,decide_eq_true,decide_eq_false,eb]);by_cases e0:0<=f2
 rotate_left
 .have ez:tB (FrP ⟨f1,f2,(f3,f4),f5,f6,f7,f8,f9⟩)=O:=qah λq=>e0 (by
   rcases q with q | q | q | q
   .have:=q.1;simp only at this;omega
   .exact q.2.2.1.1
   .have:=q.2.1.2.1;simp only at this;omega
   .have:=q.2.1.2.1;simp only at this;omega)
  (try simp(maxSteps:=2000000) (disch:=omega) only[go_sem,simprocAttr,if_pos,if_neg,w64,beqT,beqF,bneT,bneF,qai,qag,decide_eq_true,decide_eq_false,ez])
 refine zP ?_;by_cases e1:f2<=200
 rotate_left
 .have ez:tB (FrP ⟨f1,f2,(f3,f4),f5,f6,f7,f8,f9⟩)=O:=qah λq=>e1 (by
   rcases q with q | q | q | q
   .have:=q.1;simp only at this;omega
   .exact q.2.2.1.2
   .have:=q.2.1.2.1;simp only at this;omega
   .have:=q.2.1.2.1;simp only at this;omega)
  (try simp(maxSteps:=2000000) (disch:=omega) only[go_sem,simprocAttr,if_pos,if_neg,w64,beqT,beqF,bneT,bneF,qai,qag,decide_eq_true,decide_eq_false,ez])
 refine zP ?_;by_cases z0:f1=0
 .subst z0;refine zP ?_;cases f5 with
  | cons a r=>
    have ez:tB (FrP ⟨0,f2,(f3,f4),a::r,f6,f7,f8,f9⟩)=O:=qah λq=>by
     rcases q with q | q | q | q
     .have:=q.1;simp only at this;omega
     .have:=q.2.2.2.1;cases this
     .have:=q.1;simp only at this;omega
     .have:=q.1;simp only at this;omega
    (try simp(maxSteps:=2000000) (disch:=omega) only[go_sem,simprocAttr,if_pos,if_neg,w64,beqT,beqF,bneT,bneF,qai,qag,decide_eq_true,decide_eq_false,ez])
  | nil=>
  refine zP ?_;by_cases m1:1<=f3/\f3<=500/\0<=f4/\f4<=3
  .have ez:tB (FrP ⟨0,f2,(f3,f4), [],f6,f7,f8,f9⟩)=Y:=qap (.inr (.inl ⟨rfl,cb,⟨e0,e1⟩,rfl,⟨m1.1,m1.2.1⟩,m1.2.2⟩));obtain⟨m1,m2,m3,m4⟩:=m1;(try simp(maxSteps:=2000000) (disch:=omega) only[go_sem,simprocAttr,if_pos,if_neg,w64,beqT,beqF,bneT,bneF,qai,qag,decide_eq_true,decide_eq_false,ez])
  .have ez:tB (FrP ⟨0,f2,(f3,f4), [],f6,f7,f8,f9⟩)=O:=qah λq=>by
    rcases q with q | q | q | q
    .have:=q.1;simp only at this;omega
    .exact m1 ⟨q.2.2.2.2.1.1,q.2.2.2.2.1.2,q.2.2.2.2.2⟩
    .have:=q.1;simp only at this;omega
    .have:=q.1;simp only at this;omega
   by_cases n1:1<=f3
   .by_cases n2:f3<=500
    .by_cases n3:0<=f4
     .have n4: ¬f4<=3:=λq=>m1 ⟨n1,n2,n3,q⟩
      (try simp(maxSteps:=2000000) (disch:=omega) only[go_sem,simprocAttr,if_pos,if_neg,w64,beqT,beqF,bneT,bneF,qai,qag,decide_eq_true,decide_eq_false,ez])
     ·(try simp(maxSteps:=2000000) (disch:=omega) only[go_sem,simprocAttr,if_pos,if_neg,w64,beqT,beqF,bneT,bneF,qai,qag,decide_eq_true,decide_eq_false,ez])
    ·(try simp(maxSteps:=2000000) (disch:=omega) only[go_sem,simprocAttr,if_pos,if_neg,w64,beqT,beqF,bneT,bneF,qai,qag,decide_eq_true,decide_eq_false,ez])
   ·(try simp(maxSteps:=2000000) (disch:=omega) only[go_sem,simprocAttr,if_pos,if_neg,w64,beqT,beqF,bneT,bneF,qai,qag,decide_eq_true,decide_eq_false,ez])
 refine zP ?_;by_cases e2:1<=f2
 rotate_left
 .have ez:tB (FrP ⟨f1,f2,(f3,f4),f5,f6,f7,f8,f9⟩)=O:=qah λq=>e2 (by
   rcases q with q | q | q | q
   .have:=q.1;simp only at this;omega
   .have:=q.1;simp only at this;omega
   .have:=q.2.1.2.1;simp only at this;omega
   .have:=q.2.1.2.1;simp only at this;omega)
  (try simp(maxSteps:=2000000) (disch:=omega) only[go_sem,simprocAttr,if_pos,if_neg,w64,beqT,beqF,bneT,bneF,qai,qag,decide_eq_true,decide_eq_false,ez])
 refine zP ?_;cases cm:(f3==0 && f4==0) with
 | false=>
   have ez:tB (FrP ⟨f1,f2,(f3,f4),f5,f6,f7,f8,f9⟩)=O:=qah λq=>by
    have:f3=0/\f4=0:=by
     rcases q with q | q | q | q
     .have:=q.1;simp only at this;omega
     .have:=q.1;simp only at this;omega
     .have:=q.2.1.2.2;simpa using this
     .have:=q.2.1.2.2;simpa using this
    rw[this.1,this.2] at cm;cases cm
   (try simp(maxSteps:=2000000) (disch:=omega) only[go_sem,simprocAttr,if_pos,if_neg,w64,beqT,beqF,bneT,bneF,qai,qag,decide_eq_true,decide_eq_false,cm,ez])
 | true=>
 obtain⟨rfl,rfl⟩:f3=0/\f4=0:=by simpa using cm
 (try simp(maxSteps:=2000000) (disch:=omega) only[go_sem,simprocAttr,if_pos,if_neg,w64,beqT,beqF,bneT,bneF,qai,qag,decide_eq_true,decide_eq_false,cm]);by_cases z5:f1=5
 rotate_left
 .refine zP ?_;cases f5 with
  | nil=>
    have ez:tB (FrP ⟨f1,f2,(0,0), [],f6,f7,f8,f9⟩)=Y:=qap (.inr (.inr (.inl ⟨wc,⟨cb,⟨e2,e1⟩,rfl⟩,rfl⟩)));(try simp(maxSteps:=2000000) (disch:=omega) only[go_sem,simprocAttr,if_pos,if_neg,w64,beqT,beqF,bneT,bneF,qai,qag,decide_eq_true,decide_eq_false,ez])
  | cons a r=>
    have ez:tB (FrP ⟨f1,f2,(0,0),a::r,f6,f7,f8,f9⟩)=O:=qah λq=>by
     rcases q with q | q | q | q
     .have:=q.1;simp only at this;omega
     .have:=q.1;simp only at this;omega
     .have:=q.2.2;cases this
     .have:=q.1;simp only at this;omega
    (try simp(maxSteps:=2000000) (disch:=omega) only[go_sem,simprocAttr,if_pos,if_neg,w64,beqT,beqF,bneT,bneF,qai,qag,decide_eq_true,decide_eq_false,ez])
 subst z5;refine zP ?_;refine zM [1,3] ?_;refine qac 200 200 (λi:Nat=>i<=f5.length/\ ∀j (hj:j < f5.length),j < i->qaA f5[j])
  (λi=>⟨115, [(1, .ptr 0 0 0 0),(3,sci .i64 i)], [],1, [(0, .arr 9 0 [[sci .i64 5,sci .i64 f2,sci .i64 0,sci .i64 0,lPs f5,sci .i64 f6,sci .i64 f7,sci .i64 f8,lI f9]])]⟩) (λi=>f5.length - i) (0) [] ?_ ?_ ?_
 .simp
 .constructor<;>(try simp(maxSteps:=2000000) (disch:=omega) only[go_sem,simprocAttr,if_pos,if_neg,w64,beqT,beqF,bneT,bneF,qai,qag,decide_eq_true,decide_eq_false,Ki,Kd,Kb])
 .rintro i hi;obtain⟨hi,hinvi⟩:=hi;refine zV ?_;by_cases li:i < f5.length
  ·(try simp(maxSteps:=2000000) (disch:=omega) only[go_sem,simprocAttr,if_pos,if_neg,w64,beqT,beqF,bneT,bneF,qai,qag,decide_eq_true,decide_eq_false,ePc]);(refine zG ?_;refine qaa (qk0 f5[i] (hg _ (Ke li))) zB ?_;refine zV ?_);by_cases ci:qaA f5[i]
   .have ei:=qap ci;have hst: ∀j (hj:j < f5.length),j < i+1->qaA f5[j]:=λj hj hl=>by
     rcases Nat.lt_or_ge j i with q | q
     .exact hinvi j hj q
     .obtain rfl:j=i:=wa
      exact ci
    (try simp(maxSteps:=2000000) (disch:=omega) only[go_sem,simprocAttr,if_pos,if_neg,w64,beqT,beqF,bneT,bneF,qai,qag,decide_eq_true,decide_eq_false,ei]);refine⟨i+1, [],⟨wd,hst⟩,?_,?_⟩
    ·(try simp only[]);omega
    .constructor<;>(try simp(maxSteps:=2000000) (disch:=omega) only[go_sem,simprocAttr,if_pos,if_neg,w64,beqT,beqF,bneT,bneF,qai,qag,decide_eq_true,decide_eq_false,Kb])
   .have ei:=qah ci;have ez:tB (FrP ⟨5,f2,(0,0),f5,f6,f7,f8,f9⟩)=O:=qah λq=>by
     rcases q with q | q | q | q
     .have:=q.1;simp only at this;omega
     .have:=q.1;simp only at this;omega
     .have:=q.1;simp only at this;omega
     .exact ci (q.2.2.2 _ (Ke li))
    (try simp(maxSteps:=2000000) (disch:=omega) only[go_sem,simprocAttr,if_pos,if_neg,w64,beqT,beqF,bneT,bneF,qai,qag,decide_eq_true,decide_eq_false,ei,ez])
  .by_cases cl:1<=f5.length/\f5.length<=6
   .have ez:tB (FrP ⟨5,f2,(0,0),f5,f6,f7,f8,f9⟩)=Y:=qap (.inr (.inr (.inr ⟨rfl,⟨cb,⟨e2,e1⟩,rfl⟩,cl,λx hx=>by
     obtain⟨j,hj,rfl⟩:=Kh hx;have hj':j < f5.length:=hj;exact hinvi j hj' wa⟩)))
    obtain⟨cl1,cl2⟩:=cl;(try simp(maxSteps:=2000000) (disch:=omega) only[go_sem,simprocAttr,if_pos,if_neg,w64,beqT,beqF,bneT,bneF,qai,qag,decide_eq_true,decide_eq_false,ez])
   .have ez:tB (FrP ⟨5,f2,(0,0),f5,f6,f7,f8,f9⟩)=O:=qah λq=>by
     rcases q with q | q | q | q
     .have:=q.1;simp only at this;omega
     .have:=q.1;simp only at this;omega
     .have:=q.1;simp only at this;omega
     .exact cl q.2.2.1
    by_cases cl1:1<=f5.length
    .have cl2: ¬f5.length<=6:=λq=>cl ⟨cl1,q⟩
     (try simp(maxSteps:=2000000) (disch:=omega) only[go_sem,simprocAttr,if_pos,if_neg,w64,beqT,beqF,bneT,bneF,qai,qag,decide_eq_true,decide_eq_false,ez])
    ·(try simp(maxSteps:=2000000) (disch:=omega) only[go_sem,simprocAttr,if_pos,if_neg,w64,beqT,beqF,bneT,bneF,qai,qag,decide_eq_true,decide_eq_false,ez])
def qn0(h:Hs):Pure prog 47 [lHs h] (lHs h):=by
 refine zAa func47 λhs=>?_;(repeat(first | ((refine zW ?_;try with_reducible exact Ka))))
structure gNo(x:No):Prop where
 h:gHs x.h
 m:gPc x.m.p
 o:x.m.opn.length<=1000000
 u:gPc x.u.p
 t:x.t.kids.length<=1000000
 g:x.got.length<=1000
 s:x.seen.length<=1000000
end Go.Proofs.NO
namespace Go.Idl
variable{P:Program}{h0:IH}
end Go.Idl
