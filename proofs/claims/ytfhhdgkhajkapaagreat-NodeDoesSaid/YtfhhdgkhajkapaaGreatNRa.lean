/- Facts leant on. -/
import Derived.Test.YtfhhdgkhajkapaaGreatNNi
import Derived.Test.YtfhhdgkhajkapaaGreatNPS
import Derived.Test.YtfhhdgkhajkapaaGreatNxDd
import Derived.Test.YtfhhdgkhajkapaaGreatNPB
import Derived.Test.YtfhhdgkhajkapaaGreatNNb
set_option linter.all false
open List renaming append_assoc->Ka,take_of_length_le->Kb,set_cons_zero->Kc,set_cons_succ->Kd,length_map->Ke,take_succ_eq_append_getElem->Kf,take_zero->Kg,getElem_mem->Kh,length_take->Ki,take_take->Kj,map_cons->Kk,map_nil->Kl,replicate->Km,length_replicate->Kn,getElem_map->Ko,getElem?_eq_getElem->Kp
open True renaming intro->Kq
open Int renaming natCast_zero->Kr
open Nat renaming reduceAdd->Ks,min_self->Kt
open Option renaming none->U,some->V
namespace Go.Proofs.NO
open Go Go.Idl Go.Proofs Go.GP Go.GN Go.Proofs.Tryz
def kept(o:Ou):Bool:=!(o.f.kind==4 || o.f.kind==6)
def sameK(a b:Ou):Prop:=a.link=b.link/\a.f.kind=b.f.kind/\a.f.epoch=b.f.epoch
def evP:List Pc->List Ou->List Pc
 | p, []=>p
 | p,o::l=>evP (if o.f.kind=5 then o.f.ps else p) l
structure Onc(x:No)(d:Td):Prop where
 node:d.x.h.node=x.h.node
 te:x.t.epoch<=d.x.t.epoch
 td:x.told<=d.x.told
 len:d.out.length<=1000
 each: ∀o∈d.out,kept o=true->(o.f.kind=5/\x.told < o.f.epoch/\o.f.epoch<=d.x.told)\/((1<=o.f.kind/\o.f.kind<=3)/\x.t.epoch < o.f.epoch/\o.f.epoch<=d.x.t.epoch)
 pw:d.out.Pairwise λa b=>kept a=true->kept b=true-> ¬sameK a b
 ps:evP d.ps d.out= []\/(UpN (evP d.ps d.out)/\(∃p∈evP d.ps d.out,p.node=x.h.node)/\x.told < d.x.told)
 pl:(evP d.ps d.out).length<=7
section
variable{N:Int}{ls:List (Int × Int)}{T:List Nd}{t:Int}{x:No}
def qsp{ff:Bool}{d:Td}(f:NOk N ls T t d.x)(hp:d.ps= [])(h:(qak ls ff d).e=0):
  ∃a,(qak ls ff d).out=d.out++a/\((a= []/\(qak ls ff d).ps= []/\(qak ls ff d).x=d.x)\/
   (d.x.told < d.x.t.epoch/\(qak ls ff d).x=setTold d.x d.x.t.epoch/\ ∃P,UpN P/\(∃p∈P,p.node=d.x.h.node)/\P.length<=7/\
    ((a= []/\(qak ls ff d).ps=P)\/((qak ls ff d).ps= []/\ ∃l,a= [⟨l,⟨5,d.x.t.epoch,(0,0),P,0,0,0, []⟩⟩])))):=by
 unfold qak at h ⊢;split
 .rename_i c;rw[if_pos c] at h;split
  .rename_i b;rw[if_pos b] at h;exact absurd h b
  rename_i b;obtain⟨i,g, -⟩:=c;have o:(ownP ff d.x).node=d.x.h.node:=by
   have:=f.td;cases ff
   .simp only[qb6,Bool.false_eq_true,if_false] at g;simp only[ownP,Bool.false_eq_true,if_false];exact f.un wa
   .simp only[qb6,if_true] at g;simp only[ownP,if_true];exact(f.ml (by have:=g.1;omega)).2
  obtain⟨r,j,k⟩:(mrg d.x.got [ownP ff d.x]).2=0/\(mrg d.x.got [ownP ff d.x]).1.Perm (d.x.got++ [ownP ff d.x])/\UpN (mrg d.x.got [ownP ff d.x]).1:=by
   rcases mrg_cases d.x.got [ownP ff d.x] with ⟨q,_⟩ | q<;>omega
  have m: ∃p∈(mrg d.x.got [ownP ff d.x]).1,p.node=d.x.h.node:=⟨_,j.mem_iff.2 (List.mem_append.2 (.inr (List.mem_singleton.2 rfl))),o⟩;have n:(mrg d.x.got [ownP ff d.x]).1.length<=7:=by
   rw[j.length_eq,List.length_append,List.length_singleton];have:=f.got6;omega
  grind
 .exact⟨[],wc, .inl ⟨rfl,hp,rfl⟩⟩
def qm0(ff):kindN ff=1\/kindN ff=2:=by cases ff<;>simp[kindN]
end
end Go.Proofs.NO
namespace Go.Proofs.NO
open Go Go.Idl Go.Proofs Go.GP Go.GN Go.Proofs.Tryz
variable{N:Int}{ls:List (Int × Int)}{T:List Nd}{t:Int}{x:No}{ff:Bool}{st:St}{link:Int}{f:Fm}
def qmR(h:indexL link 0 (ins x.h.node 0 ls) < 0\/ ¬FrP f):hearN ls ff st x link f=errT 1:=by unfold hearN;grind
def UpOk(x:No):Prop:=x.t.up < 0->x.t.up= -1
def UpOk.new(h):UpOk (newN h):=λq=>by simp[newN,zTr] at q
def UpOk.tell{d}(h:UpOk d.x)(a:(qak ls ff d).e=0):UpOk (qak ls ff d).x:=by
 unfold qak at a ⊢;split
 .rename_i c;rw[if_pos c] at a;split
  .rename_i b;rw[if_pos b] at a;exact absurd a b
  .split<;>exact h
 omega
def UpOk.hear(h:UpOk x)(a:(hearN ls ff st x link f).e=0):UpOk (hearN ls ff st x link f).x:=by
 unfold hearN at a ⊢;split
 .rename_i c;rw[if_pos c] at a;cases a
 rename_i c;rw[if_neg c] at a;have o:0<=link:=by
  have:0<=indexL link 0 (ins x.h.node 0 ls):=by
   rcases Int.lt_or_le (indexL link 0 (ins x.h.node 0 ls)) 0 with q | q
   .exact absurd (.inl q) c
   .exact q
  obtain⟨k,p,rfl, -⟩:=qfp (qcO.1 this);omega
 split
 .rename_i j;rw[if_pos j] at a;unfold appN at a ⊢;split
  .rename_i b;rw[if_pos b] at a;exact absurd a b
  .exact h
 rename_i j;rw[if_neg j] at a;split
 .rename_i l;rw[if_pos l] at a;unfold floodedN at a ⊢;split
  .rename_i b;rw[if_pos b] at a;cases a
  rename_i b;rw[if_neg b] at a;split
  .rename_i g;rw[if_pos g] at a;cases a
  rename_i g;rw[if_neg g] at a;split
  .rename_i i;rw[if_pos i] at a;exact UpOk.tell (d:=⟨_,_,_,_,_⟩) h a
  .rename_i i;rw[if_neg i] at a;refine UpOk.tell ?_ a;intro q;simp only[floodN] at q ⊢;unfold floodT at q ⊢;rw[if_neg i] at q ⊢;simp only at q;omega
 rename_i l;rw[if_neg l] at a;split
 .rename_i m;rw[if_pos m] at a;unfold repliedN at a ⊢;split
  .rename_i b;rw[if_pos b] at a;exact absurd a b
  rename_i b;rw[if_neg b] at a;have q: ¬(x.t.epoch≠f.epoch\/x.t.wait < 1):=λq=>b wM
  refine UpOk.tell ?_ a;intro z;simp only at z ⊢;unfold replyT at z ⊢;rw[if_neg q] at z ⊢;exact h z
 rename_i m;rw[if_neg m] at a;split
 .rename_i n;rw[if_pos n] at a;unfold reportedN at a ⊢;split
  .rename_i b;rw[if_pos b] at a;cases a
  rename_i b;rw[if_neg b] at a;split
  .rename_i g;rw[if_pos g] at a;exact absurd a g
  rename_i g;rw[if_neg g] at a;exact UpOk.tell (d:=⟨_,_,_,_,_⟩) h a
 .exact h
def UpOk.start{e}(h:UpOk x)(a:(startN ls ff x e).e=0):UpOk (startN ls ff x e).x:=by
 unfold startN at a ⊢;split
 .rename_i c;rw[if_pos c] at a;cases a
 rename_i c;rw[if_neg c] at a;refine UpOk.tell ?_ a;intro q;rfl
def UpOk.pick{k}(h:UpOk x)(a:(pickN ls ff st x k).e=0):UpOk (pickN ls ff st x k).x:=by
 unfold pickN at a ⊢;split
 .rename_i c;rw[if_pos c] at a;exact absurd a c
 .exact h
end Go.Proofs.NO
/- What the document's host tells; the first host. -/
namespace Go.Proofs.NO
open Go Go.Idl Go.Proofs Go.GP Go.Proofs.Tryz
set_option maxHeartbeats 0
set_option maxRecDepth 100000
def R9PieceU_spec(h:Hs)(hg:gHs h){X:List Int}(hX:X=h.out.map λl=>(l.length:Int)):Pure prog 253 [lHs h,scb true] (lPc ⟨h.node,h.state,h.steps,X,h.inn,h.out⟩):=by
 have hg2:=hg;obtain⟨node,state,steps,inn,out⟩:=h;obtain⟨h2,h3,h4,h5⟩:=hg;simp only at h2 h3 h4 h5 hX;refine pcall0 200 (fn:=f253) func253 rfl (by simp[ntmps253]) zB zB λhs=>?_;refine zV ?_;refine zY (R9own_spec ⟨node,state,steps,inn,out⟩ hg2) ?_;refine walk_ownB 3 0 3 1 trivial rfl rfl rfl (.inr rfl) ?_;simp only[Kc,Kd,Ks];have hXl:X.length=out.length:=by rw[hX,Ke]
 have hXs: ∀(i:Nat) (li:i < out.length),X.take (i+1)=X.take i++ [(out[i].length:Int)]:=λi li=>by
  rw[hX,Kf (by rw[Ke];exact li),Ko]
 clear hX;(refine walk_trim [1,2,4,6,7,109] trivial zL ?_;((try refine zW ?_);(try with_reducible exact Kq)));refine qac 200 200 (λi:Nat=>i<=out.length)
  (λi=>⟨57, [(1,scb true),(2, .ptr 0 0 0 0),(4, .ptr 1 0 0 0),(6, .ptr 3 0 0 0),(7,sci .i64 i)], [],5, [(4, .arr 1 i (ir eI (X.take i))),(3, .arr 6 0 [[sci .i64 node,sci .i64 state,sci .i64 steps, .ref 4 i 0 i,lMs inn,lLs out]]),(1, .arr 6 0 [[sci .i64 0,sci .i64 0,sci .i64 0,nil0,nil0,nil0]]),(0, .arr 5 0 [[sci .i64 node,sci .i64 state,sci .i64 steps,lMs inn,lLs out]])]⟩) (λi=>out.length - i) (0) [] ?_ ?_ ?_
 .simp
 .constructor<;>(try simp(maxSteps:=2000000) (disch:=omega) only[go_sem,simprocAttr,zD,zE,Kr,Kb,Ka,Kg])
 .rintro i hi;refine zV ?_;by_cases li:i < out.length
  .have hl5:=h5 out[i] (Kh li);have hpt:X.take (i+1)=X.take i++ [(out[i].length:Int)]:=hXs i li;have htt:(X.take i).length=i:=wZ
   have hti:(X.take i).take i=X.take i:=by rw[Kj,Kt]
   refine zP ?_;(refine zM [1,2,4,6,7,109] ?_;refine zI [U,U,U,U,U,U,U,U,V [0,1],V [],U,V []] ?_);(try simp(maxSteps:=2000000) (disch:=omega) only[go_sem,simprocAttr,zD,zE,eLs,htt]);refine⟨i+1, [],wd,?_,?_⟩
   ·(try simp only[]);omega
   .constructor<;>(try simp(maxSteps:=2000000) (disch:=omega) only[go_sem,simprocAttr,zD,zE,hpt,hti,htt,ir_snoc,Kk,Kl,Ka])
  .obtain rfl:i=out.length:=wa
   have e:X.take out.length=X:=Kb wa;(try simp(maxSteps:=2000000) (disch:=omega) only[go_sem,simprocAttr,zD,zE,e])
def qk1(h:Hs)(hg:gHs h){X:List Int}{Z:List Unit}(hX:X=h.out.map λl=>(l.length:Int))(hZ:Z=Km h.inn.length ()):
  Pure prog 253 [lHs h,scb false] (.agg [sci .i64 h.node,sci .i64 h.state,sci .i64 h.steps,lI X, .p (.imm 1 (pr eZ Z)),nil0]):=by
 have hg2:=hg;obtain⟨node,state,steps,inn,out⟩:=h;obtain⟨h2,h3,h4,h5⟩:=hg;simp only at h2 h3 h4 h5 hX hZ;refine pcall0 200 (fn:=f253) func253 rfl (by simp[ntmps253]) zB zB λhs=>?_;refine zV ?_;refine zY (R9own_spec ⟨node,state,steps,inn,out⟩ hg2) ?_;refine walk_ownB 3 0 3 1 trivial rfl rfl rfl (.inr rfl) ?_;simp only[Kc,Kd,Ks];have hXl:X.length=out.length:=by rw[hX,Ke]
 have hXs: ∀(i:Nat) (li:i < out.length),X.take (i+1)=X.take i++ [(out[i].length:Int)]:=λi li=>by
  rw[hX,Kf (by rw[Ke];exact li),Ko]
 clear hX;(refine walk_trim [1,2,4,6,7,109] trivial zL ?_;((try refine zW ?_);(try with_reducible exact Kq)));refine qac 200 200 (λi:Nat=>i<=out.length)
  (λi=>⟨57, [(1,scb false),(2, .ptr 0 0 0 0),(4, .ptr 1 0 0 0),(6, .ptr 3 0 0 0),(7,sci .i64 i)], [],5, [(4, .arr 1 i (ir eI (X.take i))),(3, .arr 6 0 [[sci .i64 node,sci .i64 state,sci .i64 steps, .ref 4 i 0 i,lMs inn,lLs out]]),(1, .arr 6 0 [[sci .i64 0,sci .i64 0,sci .i64 0,nil0,nil0,nil0]]),(0, .arr 5 0 [[sci .i64 node,sci .i64 state,sci .i64 steps,lMs inn,lLs out]])]⟩) (λi=>out.length - i) (0) [] ?_ ?_ ?_
 .simp
 .constructor<;>(try simp(maxSteps:=2000000) (disch:=omega) only[go_sem,simprocAttr,zD,zE,Kr,Kb,Ka,Kg])
 .rintro i hi;refine zV ?_;by_cases li:i < out.length
  .have hl5:=h5 out[i] (Kh li);have hpt:X.take (i+1)=X.take i++ [(out[i].length:Int)]:=hXs i li;have htt:(X.take i).length=i:=wZ
   have hti:(X.take i).take i=X.take i:=by rw[Kj,Kt]
   refine zP ?_;(refine zM [1,2,4,6,7,109] ?_;refine zI [U,U,U,U,U,U,U,U,V [0,1],V [],U,V []] ?_);(try simp(maxSteps:=2000000) (disch:=omega) only[go_sem,simprocAttr,zD,zE,eLs,htt]);refine⟨i+1, [],wd,?_,?_⟩
   ·(try simp only[]);omega
   .constructor<;>(try simp(maxSteps:=2000000) (disch:=omega) only[go_sem,simprocAttr,zD,zE,hpt,hti,htt,ir_snoc,Kk,Kl,Ka])
  .obtain rfl:i=out.length:=wa
   have e:X.take out.length=X:=Kb wa;refine zS e ?_;refine walk_ownB 3 0 4 1 trivial rfl rfl rfl (.inr rfl) ?_;simp only[Kc,Kd,Ks];have hZl:Z.length=inn.length:=by rw[hZ,Kn]
   clear hZ;(refine walk_trim [2,4,6,8,109] trivial zL ?_;((try refine zW ?_);(try with_reducible exact Kq)));refine qac 200 200 (λj:Nat=>j<=inn.length)
    (λj=>⟨57, [(2, .ptr 0 0 0 0),(4, .ptr 1 0 0 0),(6, .ptr 3 0 0 0),(8,sci .i64 j)], [],6, [(5, .arr 1 j (ir eZ (Z.take j))),(4, .arr 1 out.length (ir eI X)),(3, .arr 6 0 [[sci .i64 node,sci .i64 state,sci .i64 steps, .ref 4 out.length 0 out.length, .ref 5 j 0 j,nil0]]),(1, .arr 6 0 [[sci .i64 0,sci .i64 0,sci .i64 0,nil0,nil0,nil0]]),(0, .arr 5 0 [[sci .i64 node,sci .i64 state,sci .i64 steps,lMs inn,lLs out]])]⟩) (λj=>inn.length - j) (0) [] ?_ ?_ ?_
   .simp
   .constructor<;>(try simp(maxSteps:=2000000) (disch:=omega) only[go_sem,simprocAttr,zD,zE,Kr,Kb,Ka,Kg])
   .rintro j hj;refine zV ?_;by_cases lj:j < inn.length
    .have hpt:Z.take (j+1)=Z.take j++ [()]:=by rw[Kf wa]
     have htt:(Z.take j).length=j:=wZ
     have hti:(Z.take j).take j=Z.take j:=by rw[Kj,Kt]
     refine zS htt ?_;refine⟨j+1, [],wd,?_,?_⟩
     ·(try simp only[]);omega
     .constructor<;>(try simp(maxSteps:=2000000) (disch:=omega) only[go_sem,simprocAttr,zD,zE,hpt,hti,htt,ir_snoc,eZ,Kk,Kl,Ka])
    .obtain rfl:j=inn.length:=wa
     have e3:X.take out.length=X:=Kb wa;have e2:Z.take inn.length=Z:=Kb wa;(try simp(maxSteps:=2000000) (disch:=omega) only[go_sem,simprocAttr,zD,zE,e2,e3])
def qk3(h:Hs)(hg:gHs h):Pure prog 253 [lHs h,scb false] (lPc (pcF h)):=by
 have hz:=qk1 h hg (Z:=Km h.inn.length ()) rfl rfl;have:=qee (λM v=>qnE) hz;rw[Kn] at this;exact this
def qk2(h:Hs)(hg:gHs h):Pure prog 253 [lHs h,scb true] (lPc (pcL h)):=R9PieceU_spec h hg rfl
def qgm(h:Hs)(e:Int)(hg:gHs h):Pure prog 196 [lHs h,sci .i64 e] (lMk (beginM h e)):=by
 have hp:=qk3 h hg;obtain⟨g1,g2,g3,g4⟩:=id hg;have e0:beginM h e=⟨e,Km h.inn.length true,pcF h⟩:=rfl;rw[e0];generalize pcF h=p at *;obtain⟨node,state,steps,inn,out⟩:=h;obtain⟨q1,q2,q3,q4,q5,q6⟩:=p;simp only at g1 g2 g3 g4 ⊢;obtain⟨A,hA⟩: ∃A:Nat->List Bool,∀i,A i=Km i true:=⟨_,λ_=>rfl⟩;have aS: ∀i,A (i+1)=A i++ [true]:=λi=>by rw[hA,hA,List.replicate_succ']
 have aL: ∀i,(A i).length=i:=λi=>by rw[hA,Kn]
 have aT: ∀i,(A i).take i=A i:=λi=>Kb (by rw[aL];exact Nat.le_refl _)
 have a0:A 0= []:=by rw[hA];rfl
 rw[<-hA];clear hA;refine pcall0 200 (fn:=f196) func196 rfl (by simp[ntmps196]) zB zB λhs=>?_;refine zV ?_;refine zY hp ?_;refine walk_ownB 2 0 1 1 trivial rfl rfl rfl (.inr rfl) ?_;simp only[Kc,Kd,Ks];(refine walk_trim [2,4,5,6,111] trivial zL ?_;((try refine zW ?_);(try with_reducible exact Kq)));refine qac 200 200 (λi:Nat=>i<=inn.length)
  (λi=>⟨24, [(2, .ptr 0 0 0 0),(4, .ptr 1 0 0 0),(5, .ptr 2 0 0 0),(6,sci .i64 i)], [],4, [(3, .arr 1 i (ir eB (A i))),(2, .arr 8 0 [[sci .i64 e, .ref 3 i 0 i,sci .i64 q1,sci .i64 q2,sci .i64 q3,lI q4,lMs q5,lLs q6]]),(1, .arr 8 0 [[sci .i64 0,nil0,sci .i64 0,sci .i64 0,sci .i64 0,nil0,nil0,nil0]]),(0, .arr 5 0 [[sci .i64 node,sci .i64 state,sci .i64 steps,lMs inn,lLs out]])]⟩) (λi=>inn.length - i) (0) [] ?_ ?_ ?_
 .simp
 .constructor<;>(try simp(maxSteps:=2000000) (disch:=omega) only[go_sem,simprocAttr,zD,zE,Kr,Kb,Ka,a0])
 .rintro i hi;refine zV ?_;by_cases li:i < inn.length
  .have sS:=aS i;have sL:=aL i;have sT:=aT i;refine zS sL ?_;refine⟨i+1, [],wd,?_,?_⟩
   ·(try simp only[]);omega
   .constructor<;>(try simp(maxSteps:=2000000) (disch:=omega) only[go_sem,simprocAttr,zD,zE,sS,sL,sT,Ka])
  .obtain rfl:i=inn.length:=wa
   have sT:=aT inn.length;(try simp(maxSteps:=2000000) (disch:=omega) only[go_sem,simprocAttr,zD,zE,sT])
def qgt(m:Mk)(e:Int)(hl:m.opn.length<=1000000):Pure prog 255 [lMk m,sci .i64 e] (scb (tB (qct m e))):=by
 obtain⟨ep,opn,⟨q1,q2,q3,q4,q5,q6⟩⟩:=m;simp only at hl;refine pcall0 200 (fn:=f255) func255 rfl (by simp[ntmps255]) zB zB λhs=>?_;refine zV ?_;(refine walk_trim [1,2,5] trivial zL ?_;((try refine zW ?_);(try with_reducible exact Kq)));refine qac 200 200 (λi:Nat=>i<=opn.length/\ ∀j,j < i->opn[j]? =V false)
  (λi=>⟨22, [(1,sci .i64 e),(2, .ptr 0 0 0 0),(5,sci .i64 i)], [],1, [(0, .arr 8 0 [[sci .i64 ep,lBo opn,sci .i64 q1,sci .i64 q2,sci .i64 q3,lI q4,lMs q5,lLs q6]])]⟩) (λi=>opn.length - i) (0) [] ?_ ?_ ?_
 .simp
 .constructor<;>(try simp(maxSteps:=2000000) (disch:=omega) only[go_sem,simprocAttr,zD,zE,Kr,Kb,Ka])
 .rintro i hi;obtain⟨hi,hinvi⟩:=hi;refine zV ?_;by_cases li:i < opn.length
  .cases hb:opn[i] with
   | true=>
     have ez:tB (qct ⟨ep,opn,⟨q1,q2,q3,q4,q5,q6⟩⟩ e)=false:=qah λq=>q.2 (hb ▸Kh li)
     (try simp(maxSteps:=2000000) (disch:=omega) only[go_sem,simprocAttr,zD,zE,eB,hb,ez])
   | false=>
     have hst: ∀j,j < i+1->opn[j]? =V false:=λj hj=>by
      rcases Nat.lt_or_ge j i with q | q
      .exact hinvi j q
      .obtain rfl:j=i:=wa
       rw[Kp li,hb]
     (try simp(maxSteps:=2000000) (disch:=omega) only[go_sem,simprocAttr,zD,zE,eB,hb]);refine⟨i+1, [],⟨wd,hst⟩,?_,?_⟩
     ·(try simp only[]);omega
     .constructor<;>(try simp(maxSteps:=2000000) (disch:=omega) only[go_sem,simprocAttr,zD,zE,Ka])
  .obtain rfl:i=opn.length:=wa
   have nz:true ∉ opn:=λq=>by
    obtain⟨j,hj,ej⟩:=List.getElem_of_mem q;have:=hinvi j hj;rw[Kp hj,ej] at this;cases this
   by_cases he:ep=e
   .subst he;have ez:tB (qct ⟨ep,opn,⟨q1,q2,q3,q4,q5,q6⟩⟩ ep)=true:=qaj ⟨rfl,nz⟩;(try simp(maxSteps:=2000000) (disch:=omega) only[go_sem,simprocAttr,zD,zE,ez])
   .have ez:tB (qct ⟨ep,opn,⟨q1,q2,q3,q4,q5,q6⟩⟩ e)=false:=qah λq=>he q.1
    (try simp(maxSteps:=2000000) (disch:=omega) only[go_sem,simprocAttr,zD,zE,ez,he])
def qhR(m:Mk)(hg:gPc m.p)(ho:m.opn.length<=1000000):PG prog 304 [lMk m] [] 1
  (.agg [sci .i64 m.epoch, .ref 0 0 0 m.opn.length,sci .i64 m.p.node,sci .i64 m.p.state,sci .i64 m.p.steps,lI m.p.sent,lMs m.p.inn,lLs m.p.out]) [(0, .arr 1 0 (ir eB m.opn))]:=by
 obtain⟨ep,opn,⟨q1,q2,q3,q4,inn,q6⟩⟩:=m;obtain⟨b1,b2,b3,b4,b5⟩:=hg;simp only at ho b1 b2 b3 b4 b5 ⊢;refine pg_of 200 (fn:=f304) func304 rfl (by simp[ntmps304]) 0 rfl zC zC zC zC zC λhs=>?_;(try simp(maxSteps:=2000000) (disch:=omega) only[go_sem,simprocAttr,zD,zE,maxLen]);refine zN [1,2,111] [U,U,V [0,1,3,4,6,7,9],U,U,V [0,1,6,7,9],U,U,U,V [0,1,2,3,4,5,6,7,8],V []] ?_;refine walk_ownB 3 0 6 1 trivial rfl rfl rfl (.inr rfl) ?_;simp only[Kc,Kd,Ks];(refine walk_trim [1,2,3,4,111] trivial zL ?_;((try refine zW ?_);(try with_reducible exact Kq)));refine qac 200 200 (λi:Nat=>i<=inn.length)
  (λi=>⟨40, [(1, .ptr 0 0 0 0),(2, .ptr 1 0 0 0),(3, .ptr 3 0 0 0),(4,sci .i64 i)], [],5, [(4, .arr 1 i (ir eMs (inn.take i))),(3, .arr 8 0 [[sci .i64 ep, .ref 2 0 0 opn.length,sci .i64 q1,sci .i64 q2,sci .i64 q3,lI q4, .ref 4 i 0 i,lLs q6]]),(2, .arr 1 0 (ir eB opn)),(1, .arr 8 0 [[sci .i64 0,nil0,sci .i64 0,sci .i64 0,sci .i64 0,nil0,nil0,nil0]]),(0, .arr 8 0 [[sci .i64 ep,lBo opn,sci .i64 q1,sci .i64 q2,sci .i64 q3,lI q4,lMs inn,lLs q6]])]⟩) (λi=>inn.length - i) (0) [] ?_ ?_ ?_
 .simp
 .constructor<;>(try simp(maxSteps:=2000000) (disch:=omega) only[go_sem,simprocAttr,zD,zE,Kr,Kb,Ka,Kg])
 .rintro i hi;refine zV ?_;by_cases li:i < inn.length
  .have hlt:(inn.take i).length=i:=wZ
   have hl2:(inn.take i).take i=inn.take i:=by rw[Kj,Kt]
   have hS:inn.take (i+1)=inn.take i++ [inn[i]]:=Kf li;have hrl:=b4 _ (Kh li);(try simp(maxSteps:=2000000) (disch:=omega) only[go_sem,simprocAttr,zD,zE,eMs]);(refine zM [1,2,3,4,111] ?_;refine zI [U,U,U,V [0,1,2,4,5,6,7,8,9],U,U,U,U,U,U,V [0,1,2],V [0,1,2],V [],U,U,V []] ?_);(try simp(maxSteps:=2000000) (disch:=omega) only[go_sem,simprocAttr,zD,zE,eMs,hlt,hl2]);refine⟨i+1, [5],wd,?_,?_⟩
   ·(try simp only[]);omega
   .constructor<;>(try simp(maxSteps:=2000000) (disch:=omega) only[go_sem,simprocAttr,zD,zE,ir_snoc,hS,hlt,hl2,eMs,Kk,Kl,Ka])
  .obtain rfl:i=inn.length:=wa
   (try simp(maxSteps:=2000000) (disch:=omega) only[go_sem,simprocAttr,zD,zE,List.take_length]);refine⟨[2],⟨rfl,wD⟩,⟨rfl,rfl⟩,rfl,rfl,qaB _⟩
end Go.Proofs.NO
