/- Facts leant on. -/
import Derived.Test.YtfhhdgkhajkapaaGreatNzS2
import Derived.Test.YtfhhdgkhajkapaaGreatNPS
import Derived.Test.YtfhhdgkhajkapaaGreatIdGr
set_option linter.all false
open Int renaming natCast_one->Ka,natCast_zero->Kb
open True renaming intro->Kc
open List renaming replicate->Kd,append_assoc->Ke,getElem?_eq_getElem->Kf,getD_cons_zero->Kg,getElem?_append_right->Kh,getElem?_append_left->Ki,set_append_right->Kj,set_append_left->Kk
/- The stable sort of pieces. -/
namespace Go.Proofs.NO
open Go Go.Idl Go.Proofs Go.GN Go.Proofs.Tryz
set_option maxHeartbeats 0
set_option maxRecDepth 100000
def qjQ{α:Type}(lt:α->α->Bool)(P S:List α): ∀(d:Nat) (Q:List α),d < Q.length->qdE lt P.length d (P++Q++S)=P++sink lt d Q++S
 | 0,Q,_=>rfl
 | d+1,Q,h=>by
   have g1:(P++Q++S)[P.length+d+1]? =some Q[d+1]:=by
    rw[Ke,Kh wa,show P.length+d+1 - P.length=d+1 by omega,Ki h,Kf h]
   have g0:(P++Q++S)[P.length+d]? =some Q[d]:=by
    rw[Ke,Kh wa,show P.length+d - P.length=d by omega,Ki wa,Kf wa]
   have e: ∀x y,swp (P++Q++S) (P.length+d) x y=P++swp Q d x y++S:=by
    intro x y;unfold swp;rw[Ke,Kj _ _ wa,show P.length+d+1 - P.length=d+1 by omega,Kk _ _ h,
     Kj _ _ wa,show P.length+d - P.length=d by omega,Kk _ _ (by rw[List.length_set];omega),<-Ke]
   rw[qdE,g1,g0,sink,Kf h,Kf (show d < Q.length by omega)];simp only;split
   .rw[e,qjQ lt P S d _ (by rw[qi6];omega)]
   .rfl
def qlv{α:Type}(lt:α->α->Bool)(P S:List α): ∀(f d:Nat) (Q:List α),d+f<=Q.length->insA lt P.length f d (P++Q++S)=P++ins lt f d Q++S
 | 0,d,Q,_=>rfl
 | f+1,d,Q,h=>by
   rw[insA,qjQ lt P S d Q wa,qlv lt P S f (d+1) _ (by rw[ql5];omega),ins]
def qpK(P Q S:List Pc)(b:Nat)(hb:P.length+Q.length=b):insA ltP P.length (b - (P.length+1)) 1 (P++Q++S)=P++qd1 ltP Q++S:=by
 rcases Nat.eq_zero_or_pos Q.length with h0 | h0
 .have:Q= []:=List.eq_nil_of_length_eq_zero h0;subst this;rw[show b - (P.length+1)=0 by omega];rfl
 .rw[show b - (P.length+1)=Q.length - 1 by omega,qlv ltP P S (Q.length - 1) 1 Q wa];rfl
def Up(l:List Pc):Prop:=l.Pairwise λx y=>x.node<=y.node
def qcI(l:List Pc):List Pc:=qd1 ltP l
def qsx(l:List Pc):Up (qd1 ltP l):=qhL Pc.node l
def qqg(l:List Pc):(qd1 ltP l).Perm l:=qfO Pc.node l
def qel(l:List Pc):(qcI l).Perm l:=qqg l
def qoU(l:List Pc):Up (qcI l):=qsx l
def qna(g:Nat)(l:List Pc)(h20:l.length < 20):
  PG prog 333 [.ref 0 g 0 l.length,sci .i64 (l.length:Int),cmpF] [pB g l] 0 (.tup []) [(0,pB g (qcI l))]:=by
 generalize hres:qcI l=res;have sp:=qiW g 0 l.length l wa (Nat.le_refl _) wa;have e:=qpK [] l [] l.length wb;simp only[List.nil_append,List.append_nil,List.length_nil] at e;unfold qcI at hres;rw[<-e] at hres;rw[hres] at sp;refine zAh func333 1 λhs=>?_;refine walk_loop 200 200 (λi:Nat=>i=0) (λi=>⟨63, [(0, .ref 0 g 0 l.length),(1,sci .i64 (l.length:Int)),(2,cmpF),(6,sci .i64 20),(7,sci .i64 0),(8,sci .i64 20)], [],1, [(0,pB g l)]⟩) (λi=>i) 0 rfl ?_ ?_
 .constructor<;>exact zU
 .rintro i rfl;have c1: ¬(20:Int)<=(l.length:Int):=wa
  refine zS c1 ?_;(refine at_g 200 ?_;refine zW ?_;refine callG_of [0] (sp) (by simp(maxSteps:=2000000) (disch:=omega) only[go_sem,simprocAttr,zD,zE,cmpF,Kb]) ?_);refine zV ?_;refine walk_loop 200 200 (λi:Nat=>i=0) (λi=>⟨63, [(0, .ref 0 g 0 l.length),(1,sci .i64 (l.length:Int)),(2,cmpF),(6,sci .i64 20)], [],1, [(0,pB g res)]⟩) (λi=>i) 0 rfl ?_ ?_
  .constructor<;>exact zU
  .rintro i rfl;have c2: ¬(20:Int) < (l.length:Int):=wa
   exact zy c2
def qqh(g:Nat)(l:List Pc)(h20:l.length < 20):
  PG prog 298 [.ref 0 g 0 l.length,cmpF] [pB g l] 0 (.tup []) [(0,pB g (qcI l))]:=by
 refine zAh func298 1 λhs=>?_;(refine at_g 200 ?_;refine zW ?_;refine callG_of [0] (qna g l h20) (by simp(disch:=omega) only[go_sem,simprocAttr,zD,zE,cmpF]) ?_;exact zT)
abbrev zrow:List IV:= [sci .i64 0,sci .i64 0,sci .i64 0, .p (.sc (.slice none 0 0)), .p (.sc (.slice none 0 0)), .p (.sc (.slice none 0 0))]
@[go_sem] def qsR{n k:Nat}:qbj n (Kd k zrow)=True:=by
  refine eq_true ((qcf n _).2 λrow h=>?_);rw[List.eq_of_mem_replicate h];exact qhW n [.sc (.int .i64 0), .sc (.int .i64 0), .sc (.int .i64 0), .sc (.slice none 0 0), .sc (.slice none 0 0), .sc (.slice none 0 0)]
@[go_sem] def rnRw_zrow{ρ:Nat->Nat}{k:Nat}:rnRw ρ (Kd k zrow)=Kd k zrow:=by
  induction k with
  | zero=>rfl
  | succ k ih=>rw[List.replicate_succ];show rnms ρ zrow::rnRw ρ (Kd k zrow)=_;rw[ih];rfl
attribute [go_sem] fcap
def qo4(n:Nat)(h1:1<=n)(hn:n<=1000):PG prog 332 [.p (.sc (.slice none 0 0)),sci .i64 (n:Int)] [] 1 (.ref 0 0 0 0) [(0, .arr 6 0 (Kd n zrow))]:=by
 refine zAh func332 0 λhs=>?_;refine zP ?_;refine⟨[0],wj,rfl,?_⟩;(try simp(maxSteps:=2000000) only[go_sem,simprocAttr,Kg,zrow])
abbrev lPP(a b:List Pc):IV:= .p (.imm 1 [[.imm 6 (pr ePc a)], [.imm 6 (pr ePc b)]])
def sumP(a b:List Pc)(i:Nat):Nat:=if i=0 then 0 else if i=1 then a.length else a.length+b.length
def qmm(a b:List Pc)(hn:a.length+b.length<=1000)(h1:1<=a.length+b.length):
  PG prog 296 [lPP a b] [] 1 (.ref 0 2 0 (a++b).length) [(0,pB 2 (a++b))]:=by
 refine zAh func296 0 λhs=>?_;refine walk_loop 200 200 (λi:Nat=>i<=2) (λi=>⟨36, [(0,lPP a b),(3,sci .i64 (sumP a b i:Int)),(9,lPP a b),(10,sci .i64 2),(11,sci .i64 (i:Int))], [],0, []⟩) (λi=>2 - i) 0 wa ?_ ?_
 .constructor<;>(try simp(maxSteps:=2000000) (disch:=omega) only[go_sem,simprocAttr,zD,zE,sumP,Kb])
 .intro i hi;refine zV ?_;have h3:i=0\/i=1\/i=2:=wa
  rcases h3 with rfl | rfl | rfl
  ·(try simp(maxSteps:=2000000) (disch:=omega) only[go_sem,simprocAttr,zD,zE,sumP,Kb,Ka]);have c1: ¬((a.length:Int) < 0):=wa
   refine zS c1 ?_;refine⟨1,wa,wa,?_⟩;constructor<;>(try simp(maxSteps:=2000000) (disch:=omega) only[go_sem,simprocAttr,zD,zE,sumP,Ka])
  ·(try simp(maxSteps:=2000000) (disch:=omega) only[go_sem,simprocAttr,zD,zE,sumP,Ka]);have c1: ¬((a.length:Int)+(b.length:Int) < 0):=wa
   refine zS c1 ?_;refine⟨2,wa,wa,?_⟩;constructor<;>(try simp(maxSteps:=2000000) (disch:=omega) only[go_sem,simprocAttr,zD,zE,sumP,Int.natCast_add])
  .have e2:((2:Nat):Int)=2:=rfl;(try simp(maxSteps:=2000000) (disch:=omega) only[go_sem,simprocAttr,zD,zE,sumP,e2]);(refine at_gr 200 ?_;refine zW ?_;refine callG_of [] (qo4 (a.length+b.length) h1 hn) zU ?_);refine zP ?_;refine zM [6,25,26,27] ?_;refine walk_loop 200 200 (λi:Nat=>i<=2) (λi=>⟨36, [(6, .ref 0 i 0 (sumP a b i)),(25,lPP a b),(26,sci .i64 2),(27,sci .i64 (i:Int))], [],1,
    [(0, .arr 6 i (if i=0 then Kd (a.length+b.length) zrow else if i=1 then ir ePc a else ir ePc (a++b)))]⟩) (λi=>2 - i) 0 wa ?_ ?_
   .constructor<;>(try simp(maxSteps:=2000000) (disch:=omega) only[go_sem,simprocAttr,zD,zE,sumP,Kb,zrow])
   .clear hi;intro i hi;refine zV ?_;have h3:i=0\/i=1\/i=2:=wa
    rcases h3 with rfl | rfl | rfl
    ·(try simp(maxSteps:=2000000) (disch:=omega) only[go_sem,simprocAttr,zD,zE,sumP,Kb,Ka]);refine⟨1,wa,wa,?_⟩;constructor<;>(try simp(maxSteps:=2000000) (disch:=omega) only[go_sem,simprocAttr,zD,zE,sumP,Ka])
    ·(try simp(maxSteps:=2000000) (disch:=omega) only[go_sem,simprocAttr,zD,zE,sumP,Ka]);refine⟨2,wa,wa,?_⟩;have e3:ir ePc a++ir ePc b=ir ePc (a++b):=wA
     constructor<;>(try simp(maxSteps:=2000000) (disch:=omega) only[go_sem,simprocAttr,zD,zE,sumP,e3])
    ·(try simp(maxSteps:=2000000) (disch:=omega) only[go_sem,simprocAttr,zD,zE,sumP,e2]);refine⟨[0],wj,?_⟩;(try simp(maxSteps:=2000000) only[go_sem,simprocAttr,Kg])
def qnO:PG prog 332 [.p (.sc (.slice none 0 0)),sci .i64 0] [] 0 (.p (.sc (.slice none 0 0))) []:=by
 refine zAg func332 0 λhs=>?_;exact zU
def qkp:PG prog 296 [lPP [] []] [] 1 (.ref 0 1 0 0) [(0,pB 1 [])]:=by
 refine zAh func296 0 λhs=>?_;refine walk_loop 200 200 (λi:Nat=>i<=2) (λi=>⟨36, [(0,lPP [] []),(3,sci .i64 0),(9,lPP [] []),(10,sci .i64 2),(11,sci .i64 (i:Int))], [],0, []⟩) (λi=>2 - i) 0 wa ?_ ?_
 .exact zc @Kb
 .intro i hi;refine zV ?_;have h3:i=0\/i=1\/i=2:=wa
  rcases h3 with rfl | rfl | rfl
  .refine zS (zQ @Kb (zQ @Ka @qp6)) ?_;refine⟨1,wa,wa,?_⟩;exact zc @Ka
  .refine zS (zQ @Ka @qp6) ?_;refine⟨2,wa,wa,?_⟩;have e2:((2:Nat):Int)=2:=rfl;exact zc e2
  .have e2:((2:Nat):Int)=2:=rfl;refine zS e2 ?_;(refine at_gr 200 ?_;refine zW ?_;refine callG_of [] (qnO) zU ?_);refine zP ?_;refine zM [6,25,26,27] ?_;refine walk_loop 200 200 (λi:Nat=>i<=2) (λi=>⟨36, [(6,if i=0 then .p (.sc (.slice none 0 0)) else .ref 0 (i - 1) 0 0),(25,lPP [] []),(26,sci .i64 2),(27,sci .i64 (i:Int))], [],if i=0 then 0 else 1,
    if i=0 then [] else [(0, .arr 6 (i - 1) [])]⟩) (λi=>2 - i) 0 wa ?_ ?_
   .exact zc @Kb
   .clear hi;intro i hi;have h3:i=0\/i=1\/i=2:=wa
    rcases h3 with rfl | rfl | rfl
    .refine zS (zQ @Kb @Ka) ?_;refine⟨1,wa,wa,?_⟩;exact zc @Ka
    .refine zS @Ka ?_;refine⟨2,wa,wa,?_⟩;exact zc e2
    .refine zS e2 ?_;refine⟨[0],wj,?_⟩;(try simp(maxSteps:=2000000) only[go_sem,simprocAttr,Kg])
end Go.Proofs.NO
