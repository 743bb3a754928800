/- Facts that the proofs of this claim lean on. -/
import Derived.Test.YtfhhdgkhajkapaaGreatNPJ
import Derived.Test.YtfhhdgkhajkapaaGreatNQB
import Derived.Test.YtfhhdgkhajkapaaGreatGN
import Derived.Test.YtfhhdgkhajkapaaGreatNzP4
import Derived.Test.YtfhhdgkhajkapaaGreatNMd
set_option linter.unusedSimpArgs false
set_option linter.unusedVariables false
/- Pieces joined. -/
namespace Go.Proofs.NO
open Go Go.Idl Go.Proofs Go.GN Go.Proofs.Tryz
set_option maxHeartbeats 20000000
set_option maxRecDepth 100000
abbrev zrow:List IV:= [sci .i64 0,sci .i64 0,sci .i64 0, .p (.sc (.slice none 0 0)), .p (.sc (.slice none 0 0)), .p (.sc (.slice none 0 0))]
@[go_sem] theorem qso {n k:Nat}:qbm n (List.replicate k zrow)=True:=by
  refine eq_true ((qb8 n _).2 fun row h=>?_)
  rw [List.eq_of_mem_replicate h]
  exact qhC n [.sc (.int .i64 0), .sc (.int .i64 0), .sc (.int .i64 0), .sc (.slice none 0 0), .sc (.slice none 0 0), .sc (.slice none 0 0)]
@[go_sem] theorem rnRw_zrow {ρ:Nat→Nat} {k:Nat}:rnRw ρ (List.replicate k zrow)=List.replicate k zrow:=by
  induction k with
  | zero=>rfl
  | succ k ih=>rw [List.replicate_succ];show rnms ρ zrow::rnRw ρ (List.replicate k zrow)=_;rw [ih];rfl
attribute [go_sem] fcap
theorem qo7 (n:Nat) (h1:1≤n) (hn:n≤1000):PG prog 332 [.p (.sc (.slice none 0 0)),sci .i64 (n:Int)] [] 1 (.ref 0 0 0 0) [(0, .arr 6 0 (List.replicate n zrow))]:=by
 refine pg_of 200 (fn:=f332) func332 rfl (by simp [ntmps332]) 0 rfl zC zC zC zC zC fun hs=>?_
 try refine zW ?_
 try refine zO ?_
 refine⟨[0],by simp [geAll,qau,qau.nin],rfl,?_⟩
 (try simp (maxSteps:=2000000) only [go_sem,simprocAttr,List.getD_cons_zero,zrow])
abbrev lPP (a b:List Pc):IV:= .p (.imm 1 [[.imm 6 (pr ePc a)], [.imm 6 (pr ePc b)]])
def sumP (a b:List Pc) (i:Nat):Nat:=if i=0 then 0 else if i=1 then a.length else a.length+b.length
theorem qma (a b:List Pc) (hn:a.length+b.length≤1000) (h1:1≤a.length+b.length):
  PG prog 296 [lPP a b] [] 1 (.ref 0 2 0 (a++b).length) [(0,pB 2 (a++b))]:=by
 refine pg_of 200 (fn:=f296) func296 rfl (by simp [ntmps296]) 0 rfl zC zC zC zC zC fun hs=>?_
 try refine zW ?_
 refine qan 200 200 (fun i:Nat=>i≤2) (fun i=>⟨36, [(0,lPP a b),(3,sci .i64 (sumP a b i:Int)),(9,lPP a b),(10,sci .i64 2),(11,sci .i64 (i:Int))], [],0, []⟩) (fun i=>2 - i) 0 (by omega) ?_ ?_
 ·constructor<;>(try simp (maxSteps:=2000000) (disch:=omega) only [go_sem,simprocAttr,zD,zE,sumP,Int.natCast_zero])
 ·intro i hi
  try refine zW ?_
  have h3:i=0∨i=1∨i=2:=by omega
  rcases h3 with rfl | rfl | rfl
  ·(try simp (maxSteps:=2000000) (disch:=omega) only [go_sem,simprocAttr,zD,zE,sumP,Int.natCast_zero,Int.natCast_one])
   have c1: ¬((a.length:Int) < 0):=by omega
   (try simp (maxSteps:=2000000) (disch:=omega) only [go_sem,simprocAttr,zD,zE,c1])
   refine⟨1,by omega,by omega,?_⟩
   constructor<;>(try simp (maxSteps:=2000000) (disch:=omega) only [go_sem,simprocAttr,zD,zE,sumP,Int.natCast_one])
  ·(try simp (maxSteps:=2000000) (disch:=omega) only [go_sem,simprocAttr,zD,zE,sumP,Int.natCast_one])
   have c1: ¬((a.length:Int)+(b.length:Int) < 0):=by omega
   (try simp (maxSteps:=2000000) (disch:=omega) only [go_sem,simprocAttr,zD,zE,c1])
   refine⟨2,by omega,by omega,?_⟩
   constructor<;>(try simp (maxSteps:=2000000) (disch:=omega) only [go_sem,simprocAttr,zD,zE,sumP,Int.natCast_add])
  ·have e2:((2:Nat):Int)=2:=rfl
   (try simp (maxSteps:=2000000) (disch:=omega) only [go_sem,simprocAttr,zD,zE,sumP,e2])
   (refine qhB 200 ?_;refine zW ?_;refine callG_of [] (qo7 (a.length+b.length) h1 hn) zU ?_)
   try refine zO ?_
   (refine walk_trim [6,25,26,27] trivial zL ?_;((try refine zW ?_);(try with_reducible exact True.intro)))
   refine qan 200 200 (fun i:Nat=>i≤2) (fun i=>⟨36, [(6, .ref 0 i 0 (sumP a b i)),(25,lPP a b),(26,sci .i64 2),(27,sci .i64 (i:Int))], [],1,
    [(0, .arr 6 i (if i=0 then List.replicate (a.length+b.length) zrow else if i=1 then ir ePc a else ir ePc (a++b)))]⟩) (fun i=>2 - i) 0 (by omega) ?_ ?_
   ·constructor<;>(try simp (maxSteps:=2000000) (disch:=omega) only [go_sem,simprocAttr,zD,zE,sumP,Int.natCast_zero,zrow])
   ·clear hi
    intro i hi
    try refine zW ?_
    have h3:i=0∨i=1∨i=2:=by omega
    rcases h3 with rfl | rfl | rfl
    ·(try simp (maxSteps:=2000000) (disch:=omega) only [go_sem,simprocAttr,zD,zE,sumP,Int.natCast_zero,Int.natCast_one])
     refine⟨1,by omega,by omega,?_⟩
     constructor<;>(try simp (maxSteps:=2000000) (disch:=omega) only [go_sem,simprocAttr,zD,zE,sumP,Int.natCast_one])
    ·(try simp (maxSteps:=2000000) (disch:=omega) only [go_sem,simprocAttr,zD,zE,sumP,Int.natCast_one])
     refine⟨2,by omega,by omega,?_⟩
     have e3:ir ePc a++ir ePc b=ir ePc (a++b):=by simp [ir]
     constructor<;>(try simp (maxSteps:=2000000) (disch:=omega) only [go_sem,simprocAttr,zD,zE,sumP,e3])
    ·(try simp (maxSteps:=2000000) (disch:=omega) only [go_sem,simprocAttr,zD,zE,sumP,e2])
     refine⟨[0],by simp [geAll,qau,qau.nin],?_⟩
     (try simp (maxSteps:=2000000) only [go_sem,simprocAttr,List.getD_cons_zero])
theorem qnX:PG prog 332 [.p (.sc (.slice none 0 0)),sci .i64 0] [] 0 (.p (.sc (.slice none 0 0))) []:=by
 refine pg_of 200 (fn:=f332) func332 rfl (by simp [ntmps332]) 0 rfl zC zC zC zC zC fun hs=>?_
 ((try refine zO ?_);(try with_reducible exact True.intro))
theorem qki:PG prog 296 [lPP [] []] [] 1 (.ref 0 1 0 0) [(0,pB 1 [])]:=by
 refine pg_of 200 (fn:=f296) func296 rfl (by simp [ntmps296]) 0 rfl zC zC zC zC zC fun hs=>?_
 try refine zW ?_
 refine qan 200 200 (fun i:Nat=>i≤2) (fun i=>⟨36, [(0,lPP [] []),(3,sci .i64 0),(9,lPP [] []),(10,sci .i64 2),(11,sci .i64 (i:Int))], [],0, []⟩) (fun i=>2 - i) 0 (by omega) ?_ ?_
 ·constructor<;>(try simp (maxSteps:=2000000) (disch:=omega) only [go_sem,simprocAttr,zD,zE,Int.natCast_zero])
 ·intro i hi
  try refine zW ?_
  have h3:i=0∨i=1∨i=2:=by omega
  rcases h3 with rfl | rfl | rfl
  ·(try simp (maxSteps:=2000000) (disch:=omega) only [go_sem,simprocAttr,zD,zE,Int.natCast_zero,Int.natCast_one,qpW])
   refine⟨1,by omega,by omega,?_⟩
   constructor<;>(try simp (maxSteps:=2000000) (disch:=omega) only [go_sem,simprocAttr,zD,zE,Int.natCast_one])
  ·(try simp (maxSteps:=2000000) (disch:=omega) only [go_sem,simprocAttr,zD,zE,Int.natCast_one,qpW])
   refine⟨2,by omega,by omega,?_⟩
   have e2:((2:Nat):Int)=2:=rfl
   constructor<;>(try simp (maxSteps:=2000000) (disch:=omega) only [go_sem,simprocAttr,zD,zE,e2])
  ·have e2:((2:Nat):Int)=2:=rfl
   (try simp (maxSteps:=2000000) (disch:=omega) only [go_sem,simprocAttr,zD,zE,e2])
   (refine qhB 200 ?_;refine zW ?_;refine callG_of [] (qnX) zU ?_)
   try refine zO ?_
   (refine walk_trim [6,25,26,27] trivial zL ?_;((try refine zW ?_);(try with_reducible exact True.intro)))
   refine qan 200 200 (fun i:Nat=>i≤2) (fun i=>⟨36, [(6,if i=0 then .p (.sc (.slice none 0 0)) else .ref 0 (i - 1) 0 0),(25,lPP [] []),(26,sci .i64 2),(27,sci .i64 (i:Int))], [],if i=0 then 0 else 1,
    if i=0 then [] else [(0, .arr 6 (i - 1) [])]⟩) (fun i=>2 - i) 0 (by omega) ?_ ?_
   ·constructor<;>(try simp (maxSteps:=2000000) (disch:=omega) only [go_sem,simprocAttr,zD,zE,Int.natCast_zero])
   ·clear hi
    intro i hi
    have h3:i=0∨i=1∨i=2:=by omega
    rcases h3 with rfl | rfl | rfl
    ·(try simp (maxSteps:=2000000) (disch:=omega) only [go_sem,simprocAttr,zD,zE,Int.natCast_zero,Int.natCast_one])
     refine⟨1,by omega,by omega,?_⟩
     constructor<;>(try simp (maxSteps:=2000000) (disch:=omega) only [go_sem,simprocAttr,zD,zE,Int.natCast_one])
    ·(try simp (maxSteps:=2000000) (disch:=omega) only [go_sem,simprocAttr,zD,zE,Int.natCast_one])
     refine⟨2,by omega,by omega,?_⟩
     constructor<;>(try simp (maxSteps:=2000000) (disch:=omega) only [go_sem,simprocAttr,zD,zE,e2])
    ·(try simp (maxSteps:=2000000) (disch:=omega) only [go_sem,simprocAttr,zD,zE,e2])
     refine⟨[0],by simp [geAll,qau,qau.nin],?_⟩
     (try simp (maxSteps:=2000000) only [go_sem,simprocAttr,List.getD_cons_zero])
def mrg (a b:List Pc):List Pc × Int:=match qgn Pc.node a b with
 | some s=>(s,0)
 | none=>([],4)
theorem qqN {a b s:List Pc} (hs:s=qcq (a++b)) {k:Nat} (h:k+1 < s.length) (e:s[k].node=s[k+1].node):mrg a b=([],4):=by
 unfold mrg
 cases hm:qgn Pc.node a b with
 | none=>rfl
 | some t=>
   exfalso
   obtain⟨p,r⟩:=(qfa Pc.node).1 hm
   have nd:(t.map Pc.node).Nodup:=by
    rw [List.nodup_iff_pairwise_ne,List.pairwise_map]
    exact r.imp fun h=>by omega
   have ps:s.Perm (a++b):=by rw [hs];exact qd1 _
   have nd2:(s.map Pc.node).Nodup:=((p.trans ps.symm).map Pc.node).nodup_iff.1 nd
   rw [List.nodup_iff_pairwise_ne,List.pairwise_map] at nd2
   exact List.pairwise_iff_getElem.1 nd2 k (k+1) (by omega) h (by omega) e
theorem qp6: ∀ {s:List Pc},(∀k (h:k+1 < s.length),s[k].node≠s[k+1].node)→qef Pc.node s=false
 | [],_=>rfl
 | [_],_=>rfl
 | x::y::r,h=>by
   unfold qef
   rw [Bool.or_eq_false_iff,decide_eq_false_iff_not]
   exact⟨h 0 (by simp),qp6 fun k hk=>h (k+1) (by simpa using hk)⟩
theorem qoK {a b s:List Pc} (hs:s=qcq (a++b)) (h: ∀k (h:k+1 < s.length),s[k].node≠s[k+1].node):mrg a b=(s,0):=by
 have:qgn Pc.node a b=some s:=by
  refine(qfa Pc.node).2 ⟨by rw [hs];exact qd1 _,?_⟩
  exact qdY Pc.node (by rw [hs];exact qoY _) (qp6 h)
 unfold mrg
 rw [this]
theorem qhc (a b:List Pc) (ha: ∀p∈a,gPc p) (hb: ∀p∈b,gPc p) (hn:a.length+b.length < 20):
  Pure prog 247 [lPs a,lPs b] (.tup [lPs (mrg a b).1,sci .i64 (mrg a b).2]):=by
 obtain⟨s,hs⟩: ∃s,s=qcq (a++b):=⟨_,rfl⟩
 have same:= @qqN a b s hs
 have unl:= @qoK a b s hs
 have hl:s.length=(a++b).length:=by rw [hs];exact(qd1 _).length_eq
 have hab:(a++b).length=a.length+b.length:=List.length_append
 have sp:=fun g=>qp2 g (a++b) (by omega)
 rw [←hs] at sp
 clear hs
 generalize hr:mrg a b=res at *
 refine pcall0 200 (fn:=f247) func247 rfl (by simp [ntmps247]) zB zB fun hs=>?_
 try refine zW ?_
 (refine zG ?_;refine callA_of (qjS a ha (by omega)) zB ?_)
 try refine zW ?_
 (refine zG ?_;refine callA_of (qjS b hb (by omega)) zB ?_)
 try refine zW ?_
 rcases Nat.eq_zero_or_pos (a.length+b.length) with h0 | h0
 ·have ea:a= []:=List.eq_nil_of_length_eq_zero (by omega)
  have eb:b= []:=List.eq_nil_of_length_eq_zero (by omega)
  subst ea eb
  have es:s= []:=List.eq_nil_of_length_eq_zero (by rw [hl];rfl)
  subst es
  have er:res=([],0):=unl (fun k h=>by simp at h)
  subst er
  have sp0:=sp 1
  simp only [List.append_nil,List.length_nil] at sp0
  (refine at_g 200 ?_;refine zW ?_;refine callG_of [] (qki) zU ?_)
  try refine zO ?_
  (refine at_g 200 ?_;refine zW ?_;refine callG_of [0] (sp0) (by simp (maxSteps:=2000000) (disch:=omega) only [go_sem,simprocAttr,zD,zE,cmpF]) ?_)
  try refine zO ?_
  (refine walk_trim [6,17,18,19] trivial zL ?_;((try refine zW ?_);(try with_reducible exact True.intro)))
  refine qac 200 200 (fun i:Nat=>i=0) (fun i=>⟨39, [(6, .ref 0 1 0 0),(17, .ref 0 1 0 0),(18,sci .i64 0),(19,sci .i64 0)], [],1, [(0,pB 1 [])]⟩) (fun i=>i) 0 [] rfl ?_ ?_
  ·constructor<;>((try refine zO ?_);(try with_reducible exact True.intro))
  ·rintro i rfl
   ((try refine zO ?_);(try with_reducible exact True.intro))
 ·(refine at_g 200 ?_;refine zW ?_;refine callG_of [] (qma a b (by omega) (by omega)) zU ?_)
  try refine zO ?_
  (refine at_g 200 ?_;refine zW ?_;refine callG_of [0] (sp 2) (by simp (maxSteps:=2000000) (disch:=omega) only [go_sem,simprocAttr,zD,zE,cmpF]) ?_)
  try refine zO ?_
  (refine walk_trim [6,17,18,19] trivial zL ?_;((try refine zW ?_);(try with_reducible exact True.intro)))
  refine qac 200 200 (fun i:Nat=>i≤s.length∧ ∀k (h:k+1 < s.length),k+1 < i→s[k].node≠s[k+1].node)
   (fun i=>⟨39, [(6, .ref 0 2 0 s.length),(17, .ref 0 2 0 s.length),(18,sci .i64 (s.length:Int)),(19,sci .i64 (i:Int))], [],1, [(0,pB 2 s)]⟩) (fun i=>s.length - i) 0 [] ⟨Nat.zero_le _,fun k h h2=>by omega⟩ ?_ ?_
  ·constructor<;>(try simp (maxSteps:=2000000) (disch:=omega) only [go_sem,simprocAttr,zD,zE,Int.natCast_zero,hl,hab,Int.natCast_add])
  ·rintro i ⟨hi,hk⟩
   try refine zW ?_
   by_cases li:i < s.length
   ·have gi:(ir ePc s)[i]? =some ((ePc s[i]).map .p):=qiS (List.getElem?_eq_getElem li)
    cases i with
    | zero=>
      (try simp (maxSteps:=2000000) (disch:=omega) only [go_sem,simprocAttr,zD,zE,gi,ePc,Int.natCast_zero])
      (refine zM [6,7,8,17,18,19] ?_;refine zI [none,none,none,none,none,none,none,none,none,none,none,none,none] ?_)
      (try simp (maxSteps:=2000000) (disch:=omega) only [go_sem,simprocAttr,zD,zE,ePc,Int.natCast_zero])
      refine⟨1, [1],⟨by omega,fun k h h2=>by omega⟩,by omega,?_⟩
      constructor<;>(try simp (maxSteps:=2000000) (disch:=omega) only [go_sem,simprocAttr,zD,zE,Int.natCast_one])
    | succ i=>
      have li2:i < s.length:=by omega
      have gi2:(ir ePc s)[i]? =some ((ePc s[i]).map .p):=qiS (List.getElem?_eq_getElem li2)
      have tn:((i:Int)+1).toNat=i+1:=rfl
      (try simp (maxSteps:=2000000) (disch:=omega) only [go_sem,simprocAttr,zD,zE,gi,ePc,tn])
      (refine zM [6,7,8,17,18,19] ?_;refine zI [none,none,none,none,none,none,none,none,none,none,none,none,none] ?_)
      (try simp (maxSteps:=2000000) (disch:=omega) only [go_sem,simprocAttr,zD,zE,gi2,ePc,Int.add_sub_cancel,tn])
      by_cases hc:s[i+1].node=s[i].node
      ·have er:=same (k:=i) li hc.symm
       subst er
       (try simp (maxSteps:=2000000) (disch:=omega) only [go_sem,simprocAttr,zD,zE,hc])
      ·have hc2:(s[i+1].node==s[i].node)=false:=by rw [beq_eq_false_iff_ne];exact hc
       (try simp (maxSteps:=2000000) (disch:=omega) only [go_sem,simprocAttr,zD,zE,hc2])
       refine⟨i+1+1, [1],⟨by omega,fun k h h2=>?_⟩,by omega,?_⟩
       ·by_cases e:k=i
        ·subst e;exact fun q=>hc q.symm
        ·exact hk k h (by omega)
       ·constructor<;>(try simp (maxSteps:=2000000) (disch:=omega) only [go_sem,simprocAttr,zD,zE,Int.natCast_add,Int.natCast_one])
        all_goals omega
   ·have er:=unl fun k h=>hk k h (by omega)
    subst er
    ((try refine zO ?_);(try with_reducible exact True.intro))
end Go.Proofs.NO
/- What a node does, in plain definitions. -/
namespace Go.Proofs.NO
open Go Go.Idl Go.Proofs Go.GP Go.Proofs.Tryz
structure Mk where
 epoch:Int
 opn:List Bool
 p:Pc
structure Hu where
 epoch:Int
 p:Pc
structure Tr where
 epoch:Int
 up:Int
 wait:Int
 kids:List Int
structure Fm where
 kind:Int
 epoch:Int
 m:Int × Int
 ps:List Pc
 init:Int
 num:Int
 count:Int
 path:List Int
structure No where
 h:Hs
 m:Mk
 u:Hu
 t:Tr
 got:List Pc
 heard:Int
 told:Int
 seen:List Int
structure Ou where
 link:Int
 f:Fm
structure Td where
 x:No
 out:List Ou
 ps:List Pc
 path:List Int
 e:Int
def zMk:Mk:=⟨0, [],zPc⟩
def zHu:Hu:=⟨0,zPc⟩
def zTr:Tr:=⟨0,0,0, []⟩
def zNo:No:=⟨zHs,zMk,zHu,zTr, [],0,0, []⟩
def errT (e:Int):Td:=⟨zNo, [], [], [],e⟩
def newN (h:Hs):No:=⟨h,zMk,zHu,zTr, [],0,0, []⟩
abbrev lBo (l:List Bool):IV:= .p (.imm 1 (pr eB l))
def eFm (f:Fm):List PV:= [.sc (.int .i64 f.kind), .sc (.int .i64 f.epoch), .sc (.int .i64 f.m.1), .sc (.int .i64 f.m.2), .imm 6 (pr ePc f.ps), .sc (.int .i64 f.init), .sc (.int .i64 f.num), .sc (.int .i64 f.count), .imm 1 (pr eI f.path)]
def eOu (o:Ou):List PV:= [.sc (.int .i64 o.link), .sc (.int .i64 o.f.kind), .sc (.int .i64 o.f.epoch), .sc (.int .i64 o.f.m.1), .sc (.int .i64 o.f.m.2), .imm 6 (pr ePc o.f.ps), .sc (.int .i64 o.f.init), .sc (.int .i64 o.f.num), .sc (.int .i64 o.f.count), .imm 1 (pr eI o.f.path)]
abbrev lFm (f:Fm):IV:= .agg [sci .i64 f.kind,sci .i64 f.epoch,sci .i64 f.m.1,sci .i64 f.m.2,lPs f.ps,sci .i64 f.init,sci .i64 f.num,sci .i64 f.count,lI f.path]
abbrev lOus (l:List Ou):IV:= .p (.imm 10 (pr eOu l))
abbrev lMk (m:Mk):IV:= .agg [sci .i64 m.epoch,lBo m.opn,sci .i64 m.p.node,sci .i64 m.p.state,sci .i64 m.p.steps,lI m.p.sent,lMs m.p.inn,lLs m.p.out]
abbrev lHu (u:Hu):IV:= .agg [sci .i64 u.epoch,sci .i64 u.p.node,sci .i64 u.p.state,sci .i64 u.p.steps,lI u.p.sent,lMs u.p.inn,lLs u.p.out]
abbrev lTr (t:Tr):IV:= .agg [sci .i64 t.epoch,sci .i64 t.up,sci .i64 t.wait,lI t.kids]
abbrev cNo (x:No):List IV:= [sci .i64 x.h.node,sci .i64 x.h.state,sci .i64 x.h.steps,lMs x.h.inn,lLs x.h.out,
 sci .i64 x.m.epoch,lBo x.m.opn,sci .i64 x.m.p.node,sci .i64 x.m.p.state,sci .i64 x.m.p.steps,lI x.m.p.sent,lMs x.m.p.inn,lLs x.m.p.out,
 sci .i64 x.u.epoch,sci .i64 x.u.p.node,sci .i64 x.u.p.state,sci .i64 x.u.p.steps,lI x.u.p.sent,lMs x.u.p.inn,lLs x.u.p.out,
 sci .i64 x.t.epoch,sci .i64 x.t.up,sci .i64 x.t.wait,lI x.t.kids,lPs x.got,sci .i64 x.heard,sci .i64 x.told,lI x.seen]
abbrev lNo (x:No):IV:= .agg [sci .i64 x.h.node,sci .i64 x.h.state,sci .i64 x.h.steps,lMs x.h.inn,lLs x.h.out,
 sci .i64 x.m.epoch,lBo x.m.opn,sci .i64 x.m.p.node,sci .i64 x.m.p.state,sci .i64 x.m.p.steps,lI x.m.p.sent,lMs x.m.p.inn,lLs x.m.p.out,
 sci .i64 x.u.epoch,sci .i64 x.u.p.node,sci .i64 x.u.p.state,sci .i64 x.u.p.steps,lI x.u.p.sent,lMs x.u.p.inn,lLs x.u.p.out,
 sci .i64 x.t.epoch,sci .i64 x.t.up,sci .i64 x.t.wait,lI x.t.kids,lPs x.got,sci .i64 x.heard,sci .i64 x.told,lI x.seen]
/- The mark. -/
def qa6 (h:Hs) (e:Int):Mk:=⟨e,List.replicate h.inn.length true,pcF h⟩
def qa2 (m:Mk) (h:Hs) (e at_:Int):Mk × Bool:=
 if at_ < 0∨(h.inn.length:Int)≤at_ then(m,false)
 else if m.epoch=e then(⟨m.epoch,m.opn.set at_.toNat false,m.p⟩,false)
 else(⟨e,(List.replicate h.inn.length true).set at_.toNat false,pcF h⟩,true)
def appM (m:Mk) (at_:Int) (x:Int × Int):Mk:=
 if at_ < 0∨(m.opn.length:Int)≤at_∨m.opn[at_.toNat]? ≠some true then m
 else⟨m.epoch,m.opn,⟨m.p.node,m.p.state,m.p.steps,m.p.sent,m.p.inn.set at_.toNat ((m.p.inn[at_.toNat]?).getD []++ [x]),m.p.out⟩⟩
def qf8 (m:Mk) (e:Int):Prop:=m.epoch=e∧true ∉ m.opn
/- The colour. -/
def qa1 (u:Hu) (h:Hs) (e:Int):Hu × Bool:=if e≤u.epoch then(u,false) else(⟨e,pcL h⟩,true)
/- The tree. -/
def qbT (e o:Int):Tr:=⟨e, -1,if o < 0 then 0 else o, []⟩
def qbR (t:Tr) (e l o:Int):Tr × Bool:=if t.epoch=e then(t,false) else(⟨e,l,if o < 0 then 0 else o, []⟩,true)
def replyT (t:Tr) (e l:Int) (yes:Bool):Tr × Int:=if t.epoch≠e∨t.wait < 1 then(zTr,1) else(⟨t.epoch,t.up,t.wait - 1,if yes then t.kids++ [l] else t.kids⟩,0)
/- Frames that may be. -/
def qdg (f:Fm):Prop:=f.init=0∧f.num=0∧f.count=0∧f.path= []
def qbp (f:Fm):Prop:=f.epoch=0∧f.m=(0,0)∧f.ps= []∧(0≤f.init∧f.init≤5)∧(1≤f.num∧f.num≤200)∧(0≤f.count∧f.count≤500)∧(1≤f.path.length∧f.path.length≤6)∧ ∀x∈f.path,0≤x∧x≤5
def CtlF (f:Fm):Prop:=qdg f∧(1≤f.epoch∧f.epoch≤200)∧f.m=(0,0)
def FrP (f:Fm):Prop:=(f.kind=6∧qbp f)∨(f.kind=0∧qdg f∧(0≤f.epoch∧f.epoch≤200)∧f.ps= []∧(1≤f.m.1∧f.m.1≤500)∧0≤f.m.2∧f.m.2≤3)∨
 ((1≤f.kind∧f.kind≤4)∧CtlF f∧f.ps= [])∨(f.kind=5∧CtlF f∧(1≤f.ps.length∧f.ps.length≤6)∧ ∀p∈f.ps,qaA p)
def ctl (k e:Int):Fm:=⟨k,e,(0,0), [],0,0,0, []⟩
/- Probes. -/
def stOf (T:List Nd) (h:Hs):St:=((((T[h.node.toNat]?).getD ⟨0, []⟩).states)[h.state.toNat]?).getD ⟨0, [], [], []⟩
def sendsP (ls:List (Int × Int)) (st:St) (h:Hs) (init num:Int) (path:List Int):List Ou:=
 st.waits.map fun w=>⟨qaF h.node w 0 ls,⟨6,0,(0,0), [],init,num,lenAt h.inn (indexL (qaF w h.node 0 ls) 0 (ins h.node 0 ls)),path++ [h.node]⟩⟩
def hearP (ls:List (Int × Int)) (st:St) (h:Hs) (seen:List Int) (link:Int) (f:Fm):List Int × List Ou × List Int:=
 if link ∉ ins h.node 0 ls∨st.mode≠2∨lenAt h.out (indexL (qaz ls link) 0 (outs h.node 0 ls))≠f.count then(seen, [], [])
 else if f.init=h.node then(seen, [],f.path)
 else if f.num≤(seen[f.init.toNat]?).getD 0 then(seen, [], [])
 else((seen++List.replicate (f.init.toNat+1 - seen.length) 0).set f.init.toNat f.num,sendsP ls st h f.init f.num f.path, [])
/- The node. -/
def kindN (ff:Bool):Int:=if ff then 1 else 2
def floodN (ls:List (Int × Int)) (ff:Bool) (t:Td) (e:Int):Td:=
 ⟨⟨t.x.h,t.x.m,t.x.u,t.x.t, [],0,t.x.told,t.x.seen⟩,t.out++(outs t.x.h.node 0 ls).map (fun l=>⟨l,ctl (kindN ff) e⟩),t.ps,t.path,t.e⟩
def qc4 (ff:Bool) (x:No) (e:Int):Prop:=if ff then qf8 x.m e else e≤x.u.epoch
def qix (ff:Bool) (x:No):Prop:=x.told < x.t.epoch∧qc4 ff x x.t.epoch∧x.t.wait < 1∧x.heard=x.t.kids.length
def ownP (ff:Bool) (x:No):Pc:=if ff then x.m.p else x.u.p
def setTold (x:No) (e:Int):No:=⟨x.h,x.m,x.u,x.t,x.got,x.heard,e,x.seen⟩
open Classical in
noncomputable def qaw (ls:List (Int × Int)) (ff:Bool) (t:Td):Td:=
 if qix ff t.x then
  if(mrg t.x.got [ownP ff t.x]).2≠0 then errT (mrg t.x.got [ownP ff t.x]).2
  else if t.x.t.up < 0 then⟨setTold t.x t.x.t.epoch,t.out,(mrg t.x.got [ownP ff t.x]).1,t.path,0⟩
  else⟨setTold t.x t.x.t.epoch,t.out++ [⟨qaz ls t.x.t.up,⟨5,t.x.t.epoch,(0,0),(mrg t.x.got [ownP ff t.x]).1,0,0,0, []⟩⟩],t.ps,t.path,0⟩
 else t
noncomputable def startN (ls:List (Int × Int)) (ff:Bool) (x:No) (e:Int):Td:=
 if e < 1∨200 < e∨e≤x.m.epoch∨e≤x.u.epoch∨e≤x.t.epoch then errT 1
 else qaw ls ff (floodN ls ff ⟨⟨x.h,if ff then qa6 x.h e else x.m,if ff then x.u else(qa1 x.u x.h e).1,qbT e (outs x.h.node 0 ls).length,x.got,x.heard,x.told,x.seen⟩, [], [], [],0⟩ e)
noncomputable def appN (ls:List (Int × Int)) (ff:Bool) (st:St) (x:No) (link:Int) (f:Fm):Td:=
 if(takeH ls st x.h link f.m).2≠0 then errT (takeH ls st x.h link f.m).2
 else⟨⟨(takeH ls st x.h link f.m).1,if ff then appM x.m (indexL link 0 (ins x.h.node 0 ls)) f.m else x.m,if ff then x.u else(qa1 x.u x.h f.epoch).1,x.t,x.got,x.heard,x.told,x.seen⟩, [], [], [],0⟩
noncomputable def floodedN (ls:List (Int × Int)) (ff:Bool) (x:No) (link:Int) (f:Fm):Td:=
 if f.kind≠kindN ff then errT 9
 else if f.epoch < x.t.epoch then errT 1
 else if x.t.epoch=f.epoch then qaw ls ff ⟨⟨x.h,if ff then(qa2 x.m x.h f.epoch (indexL link 0 (ins x.h.node 0 ls))).1 else x.m,if ff then x.u else(qa1 x.u x.h f.epoch).1,x.t,x.got,x.heard,x.told,x.seen⟩, [⟨qaz ls link,ctl 4 f.epoch⟩], [], [],0⟩
 else qaw ls ff (floodN ls ff ⟨⟨x.h,if ff then(qa2 x.m x.h f.epoch (indexL link 0 (ins x.h.node 0 ls))).1 else x.m,if ff then x.u else(qa1 x.u x.h f.epoch).1,(qbR x.t f.epoch link (outs x.h.node 0 ls).length).1,x.got,x.heard,x.told,x.seen⟩, [⟨qaz ls link,ctl 3 f.epoch⟩], [], [],0⟩ f.epoch)
noncomputable def repliedN (ls:List (Int × Int)) (ff:Bool) (x:No) (link:Int) (f:Fm):Td:=
 if(replyT x.t f.epoch (qaz ls link) (f.kind==3)).2≠0 then errT (replyT x.t f.epoch (qaz ls link) (f.kind==3)).2
 else qaw ls ff ⟨⟨x.h,x.m,x.u,(replyT x.t f.epoch (qaz ls link) (f.kind==3)).1,x.got,x.heard,x.told,x.seen⟩, [], [], [],0⟩
noncomputable def reportedN (ls:List (Int × Int)) (ff:Bool) (x:No) (link:Int) (f:Fm):Td:=
 if f.epoch≠x.t.epoch∨x.told=f.epoch∨qaz ls link ∉ x.t.kids then errT 1
 else if(mrg x.got f.ps).2≠0 then errT (mrg x.got f.ps).2
 else qaw ls ff ⟨⟨x.h,x.m,x.u,x.t,(mrg x.got f.ps).1,x.heard+1,x.told,x.seen⟩, [], [], [],0⟩
def probedN (ls:List (Int × Int)) (st:St) (x:No) (link:Int) (f:Fm):Td:=
 ⟨⟨x.h,x.m,x.u,x.t,x.got,x.heard,x.told,(hearP ls st x.h x.seen link f).1⟩,(hearP ls st x.h x.seen link f).2.1, [],(hearP ls st x.h x.seen link f).2.2,0⟩
open Classical in
noncomputable def hearN (ls:List (Int × Int)) (ff:Bool) (st:St) (x:No) (link:Int) (f:Fm):Td:=
 if indexL link 0 (ins x.h.node 0 ls) < 0∨ ¬FrP f then errT 1
 else if f.kind=0 then appN ls ff st x link f
 else if f.kind=1∨f.kind=2 then floodedN ls ff x link f
 else if f.kind=3∨f.kind=4 then repliedN ls ff x link f
 else if f.kind=5 then reportedN ls ff x link f
 else probedN ls st x link f
end Go.Proofs.NO
