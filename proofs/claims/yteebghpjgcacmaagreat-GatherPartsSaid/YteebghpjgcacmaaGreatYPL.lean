/- Facts that the proofs of this claim lean on. -/
import Derived.Test.YteebghpjgcacmaaGreatYPI
import Derived.Test.YteebghpjgcacmaaGreatIdGr
set_option linter.unusedSimpArgs false
set_option linter.unusedVariables false
/- The stable sort of pieces. -/
namespace Go.Proofs.GY
open Go Go.Idl Go.Proofs Go.GN
set_option maxHeartbeats 20000000
set_option maxRecDepth 100000
theorem sinkA_mid {α:Type} (lt:α→α→Bool) (P S:List α): ∀(d:Nat) (Q:List α),d < Q.length→sinkA lt P.length d (P++Q++S)=P++sink lt d Q++S
 | 0,Q,_=>rfl
 | d+1,Q,h=>by
   have g1:(P++Q++S)[P.length+d+1]? =some Q[d+1]:=by
    rw [List.append_assoc,List.getElem?_append_right (by omega),show P.length+d+1 - P.length=d+1 by omega,List.getElem?_append_left h,List.getElem?_eq_getElem h]
   have g0:(P++Q++S)[P.length+d]? =some Q[d]:=by
    rw [List.append_assoc,List.getElem?_append_right (by omega),show P.length+d - P.length=d by omega,List.getElem?_append_left (by omega),List.getElem?_eq_getElem (by omega)]
   have e: ∀x y,swp (P++Q++S) (P.length+d) x y=P++swp Q d x y++S:=by
    intro x y
    unfold swp
    rw [List.append_assoc,List.set_append_right _ _ (by omega),show P.length+d+1 - P.length=d+1 by omega,List.set_append_left _ _ h,
     List.set_append_right _ _ (by omega),show P.length+d - P.length=d by omega,List.set_append_left _ _ (by rw [List.length_set];omega),←List.append_assoc]
   rw [sinkA,g1,g0,sink,List.getElem?_eq_getElem h,List.getElem?_eq_getElem (show d < Q.length by omega)]
   simp only
   split
   ·rw [e,sinkA_mid lt P S d _ (by rw [swp_len];omega)]
   ·rfl
theorem insA_mid {α:Type} (lt:α→α→Bool) (P S:List α): ∀(f d:Nat) (Q:List α),d+f≤Q.length→insA lt P.length f d (P++Q++S)=P++ins lt f d Q++S
 | 0,d,Q,_=>rfl
 | f+1,d,Q,h=>by
   rw [insA,sinkA_mid lt P S d Q (by omega),insA_mid lt P S f (d+1) _ (by rw [sink_len];omega),ins]
theorem insA_sort (P Q S:List Pc) (b:Nat) (hb:P.length+Q.length=b):insA ltP P.length (b - (P.length+1)) 1 (P++Q++S)=P++sortL ltP Q++S:=by
 rcases Nat.eq_zero_or_pos Q.length with h0 | h0
 ·have:Q= []:=List.eq_nil_of_length_eq_zero h0
  subst this
  rw [show b - (P.length+1)=0 by omega];rfl
 ·rw [show b - (P.length+1)=Q.length - 1 by omega,insA_mid ltP P S (Q.length - 1) 1 Q (by omega)];rfl
def stableL (l:List Pc):List Pc:=if l.length≤20 then sortL ltP l else List.merge (sortL ltP (l.take 20)) (sortL ltP (l.drop 20)) leP
theorem sort_up (l:List Pc):Up (sortL ltP l):=sortL_up Pc.node l
theorem sort_perm (l:List Pc):(sortL ltP l).Perm l:=sortL_perm Pc.node l
theorem stableL_perm (l:List Pc):(stableL l).Perm l:=by
 unfold stableL
 split
 ·exact sort_perm l
 ·refine(List.merge_perm_append (le:=leP)).trans ?_
  have:=(sort_perm (l.take 20)).append (sort_perm (l.drop 20))
  rwa [List.take_append_drop] at this
theorem stableL_up (l:List Pc):Up (stableL l):=by
 unfold stableL
 split
 ·exact sort_up l
 ·have key: ∀ {m:List Pc},Up m↔m.Pairwise (fun x y=>leP x y=true):=by
   intro m
   unfold Up leP
   simp only [decide_eq_true_eq]
  rw [key]
  refine List.pairwise_merge (fun a b c h1 h2=>?_) (fun a b=>?_) _ _ (key.1 (sort_up _)) (key.1 (sort_up _))
  ·unfold leP at *;simp only [decide_eq_true_eq] at *;omega
  ·unfold leP;simp only [Bool.or_eq_true,decide_eq_true_eq];omega
theorem stable_spec (g:Nat) (l:List Pc) (hn:l.length < 40):
  PG Tryz.prog 90 [.ref 0 g 0 l.length,sci .i64 (l.length:Int),cmpF] [pB g l] 0 (.tup []) [(0,pB g (stableL l))]:=by
 generalize hres:stableL l=res
 rcases Nat.lt_or_ge l.length 20 with h20 | h20
 ·have sp:=insertion_spec g 0 l.length l (by omega) (Nat.le_refl _) (by omega)
  have e:=insA_sort [] l [] l.length (by simp)
  simp only [List.nil_append,List.append_nil,List.length_nil] at e
  unfold stableL at hres
  rw [if_pos (by omega),←e] at hres
  rw [hres] at sp
  refine pg_of 200 (fn:=Tryz.f90) Tryz.func90 rfl (by simp [Tryz.ntmps90]) 1 rfl zC zC zC zC zC fun hs=>?_
  ((try refine zW ?_);(try with_reducible exact True.intro))
  refine walk_loop 200 200 (fun i:Nat=>i=0) (fun i=>⟨63, [(0, .ref 0 g 0 l.length),(1,sci .i64 (l.length:Int)),(2,cmpF),(6,sci .i64 20),(7,sci .i64 0),(8,sci .i64 20)], [],1, [(0,pB g l)]⟩) (fun i=>i) 0 rfl ?_ ?_
  ·constructor<;>((try refine zO ?_);(try with_reducible exact True.intro))
  ·rintro i rfl
   have c1: ¬(20:Int)≤(l.length:Int):=by omega
   (try simp (maxSteps:=2000000) (disch:=omega) only [go_sem,simprocAttr,zD,zE,c1])
   (refine at_g 200 ?_;(refine zW ?_;try with_reducible exact True.intro);refine callG_of [0] (sp) (by simp (maxSteps:=2000000) (disch:=omega) only [go_sem,simprocAttr,zD,zE,cmpF,Int.natCast_zero]) ?_;((try refine zW ?_);(try with_reducible exact True.intro)))
   ((try refine zW ?_);(try with_reducible exact True.intro))
   refine walk_loop 200 200 (fun i:Nat=>i=0) (fun i=>⟨63, [(0, .ref 0 g 0 l.length),(1,sci .i64 (l.length:Int)),(2,cmpF),(6,sci .i64 20)], [],1, [(0,pB g res)]⟩) (fun i=>i) 0 rfl ?_ ?_
   ·constructor<;>((try refine zO ?_);(try with_reducible exact True.intro))
   ·rintro i rfl
    have c2: ¬(20:Int) < (l.length:Int):=by omega
    (try simp (maxSteps:=2000000) (disch:=omega) only [go_sem,simprocAttr,zD,zE,c2])
 ·obtain⟨Q,S,rfl,hQ⟩: ∃Q S,l=Q++S∧Q.length=20:=⟨l.take 20,l.drop 20,(List.take_append_drop ..).symm,by rw [List.length_take];omega⟩
  have hnl:(Q++S).length=20+S.length:=by rw [List.length_append,hQ]
  have sp1:=insertion_spec g 0 20 (Q++S) (by omega) (by omega) (by omega)
  have e1:=insA_sort [] Q S 20 (by simpa using hQ)
  simp only [List.nil_append,List.length_nil] at e1
  rw [e1] at sp1
  have hl1:(sortL ltP Q++S).length=(Q++S).length:=by rw [List.length_append,sortL_len,List.length_append]
  have hl2:(sortL ltP Q++sortL ltP S).length=(Q++S).length:=by rw [List.length_append,sortL_len,sortL_len,List.length_append]
  have sp2:=insertion_spec g 20 (20+S.length) (sortL ltP Q++S) (by omega) (by omega) (by omega)
  have e2:=insA_sort (sortL ltP Q) S [] (20+S.length) (by rw [sortL_len,hQ])
  rw [sortL_len,hQ,List.append_nil,List.append_nil] at e2
  rw [e2,hl1] at sp2
  have sp3:1≤S.length→PG Tryz.prog 119 [.ref 0 g 0 (Q++S).length,sci .i64 0,sci .i64 20,sci .i64 ((20+S.length:Nat):Int),cmpF] [pB g (sortL ltP Q++sortL ltP S)] 0 (.tup []) [(0,pB g res)]:=by
   intro h1
   have sp:=sym_spec g 1000 [] (sortL ltP Q) (sortL ltP S) [] (by rw [sortL_len,sortL_len];omega) (by rw [sortL_len];omega) (by rw [sortL_len];omega) (sort_up _) (sort_up _) (by simp only [List.nil_append,List.append_nil];omega)
   unfold symPG at sp
   simp only [List.nil_append,List.append_nil,List.length_nil,Nat.zero_add] at sp
   rw [hl2,sortL_len,sortL_len,hQ] at sp
   have:List.merge (sortL ltP Q) (sortL ltP S) leP=res:=by
    rw [←hres]
    unfold stableL
    rw [if_neg (by omega),List.take_left' hQ,List.drop_left' hQ]
   rw [this] at sp
   exact sp
  have z0:S.length=0→sortL ltP Q++sortL ltP S=res:=by
   intro h0
   have:S= []:=List.eq_nil_of_length_eq_zero h0
   subst this
   rw [←hres]
   unfold stableL
   rw [if_pos (by simp [hQ])]
   simp [sortL,ins]
  generalize hl:Q++S=l at *
  generalize sortL ltP Q++S=l1 at *
  generalize sortL ltP Q++sortL ltP S=l2 at *
  generalize hk:S.length=k at *
  have hnl':(l.length:Int)=((20+k:Nat):Int):=by omega
  have hk40:k < 20:=by omega
  clear hres e1 e2 hl hQ
  refine pg_of 200 (fn:=Tryz.f90) Tryz.func90 rfl (by simp [Tryz.ntmps90]) 1 rfl zC zC zC zC zC fun hs=>?_
  ((try refine zW ?_);(try with_reducible exact True.intro))
  refine walk_loop 200 200 (fun i:Nat=>i≤1) (fun i=>⟨63, [(0, .ref 0 g 0 l.length),(1,sci .i64 (l.length:Int)),(2,cmpF),(6,sci .i64 20),(7,sci .i64 (if i=0 then 0 else 20)),(8,sci .i64 (if i=0 then 20 else 40))], [],1, [(0,pB g (if i=0 then l else l1))]⟩) (fun i=>1 - i) 0 (by omega) ?_ ?_
  ·constructor<;>((try refine zO ?_);(try with_reducible exact True.intro))
  ·intro i hi
   have:i=0∨i=1:=by omega
   rcases this with rfl | rfl
   ·have c1:(20:Int)≤(l.length:Int):=by omega
    (try simp (maxSteps:=2000000) (disch:=omega) only [go_sem,simprocAttr,zD,zE,c1])
    (refine at_g 200 ?_;(refine zW ?_;try with_reducible exact True.intro);refine callG_of [0] (sp1) (by simp (maxSteps:=2000000) (disch:=omega) only [go_sem,simprocAttr,zD,zE,cmpF,Int.natCast_zero]) ?_;((try refine zW ?_);(try with_reducible exact True.intro)))
    ((try refine zO ?_);(try with_reducible exact True.intro))
    refine⟨1,by omega,by omega,?_⟩
    constructor<;>((try refine zO ?_);(try with_reducible exact True.intro))
   ·have c1: ¬(40:Int)≤(l.length:Int):=by omega
    (try simp (maxSteps:=2000000) (disch:=omega) only [go_sem,simprocAttr,zD,zE,c1])
    (refine at_g 200 ?_;(refine zW ?_;try with_reducible exact True.intro);refine callG_of [0] (sp2) (by simp (maxSteps:=2000000) (disch:=omega) only [go_sem,simprocAttr,zD,zE,cmpF,hnl']) ?_;((try refine zW ?_);(try with_reducible exact True.intro)))
    ((try refine zO ?_);(try with_reducible exact True.intro))
    refine walk_loop 200 200 (fun i:Nat=>i≤1) (fun i=>⟨63, [(0, .ref 0 g 0 l.length),(1,sci .i64 (l.length:Int)),(2,cmpF),(6,sci .i64 (if i=0 then 20 else 40))], [],1, [(0,pB g (if i=0 then l2 else res))]⟩) (fun i=>1 - i) 0 (by omega) ?_ ?_
    ·constructor<;>((try refine zO ?_);(try with_reducible exact True.intro))
    ·intro i hi1
     have:i=0∨i=1:=by omega
     rcases this with rfl | rfl
     ·rcases Nat.eq_zero_or_pos k with h0 | h0
      ·have c2: ¬(20:Int) < (l.length:Int):=by omega
       have e2:=z0 h0
       subst e2
       (try simp (maxSteps:=2000000) (disch:=omega) only [go_sem,simprocAttr,zD,zE,c2])
      ·have c2:(20:Int) < (l.length:Int):=by omega
       have sp:=sp3 h0
       (try simp (maxSteps:=2000000) (disch:=omega) only [go_sem,simprocAttr,zD,zE,c2])
       refine walk_loop 200 200 (fun i:Nat=>i=0) (fun i=>⟨63, [(0, .ref 0 g 0 l.length),(1,sci .i64 (l.length:Int)),(2,cmpF),(6,sci .i64 20),(7,sci .i64 0),(8,sci .i64 40)], [],1, [(0,pB g l2)]⟩) (fun i=>i) 0 rfl ?_ ?_
       ·constructor<;>((try refine zO ?_);(try with_reducible exact True.intro))
       ·rintro i rfl
        (try simp (maxSteps:=2000000) (disch:=omega) only [go_sem,simprocAttr,zD,zE,c1])
        (try simp (maxSteps:=2000000) (disch:=omega) only [go_sem,simprocAttr,zD,zE,c2])
        (refine at_g 200 ?_;(refine zW ?_;try with_reducible exact True.intro);refine callG_of [0] (sp) (by simp (maxSteps:=2000000) (disch:=omega) only [go_sem,simprocAttr,zD,zE,cmpF,hnl']) ?_;((try refine zW ?_);(try with_reducible exact True.intro)))
        ((try refine zO ?_);(try with_reducible exact True.intro))
        refine⟨1,by omega,by omega,?_⟩
        constructor<;>((try refine zO ?_);(try with_reducible exact True.intro))
     ·have c2: ¬(40:Int) < (l.length:Int):=by omega
      (try simp (maxSteps:=2000000) (disch:=omega) only [go_sem,simprocAttr,zD,zE,c2])
theorem sort_spec (g:Nat) (l:List Pc) (hn:l.length < 40):
  PG Tryz.prog 47 [.ref 0 g 0 l.length,cmpF] [pB g l] 0 (.tup []) [(0,pB g (stableL l))]:=by
 refine pg_of 200 (fn:=Tryz.f47) Tryz.func47 rfl (by simp [Tryz.ntmps47]) 1 rfl zC zC zC zC zC fun hs=>?_
 ((try refine zW ?_);(try with_reducible exact True.intro))
 (refine at_g 200 ?_;(refine zW ?_;try with_reducible exact True.intro);refine callG_of [0] (stable_spec g l hn) (by simp (disch:=omega) only [go_sem,simprocAttr,zD,zE,cmpF]) ?_;((try refine zW ?_);(try with_reducible exact True.intro)))
end Go.Proofs.GY
/- Pieces joined. -/
namespace Go.Proofs.GY
open Go Go.Idl Go.Proofs Go.GN
set_option maxHeartbeats 20000000
set_option maxRecDepth 100000
abbrev zrow:List IV:= [sci .i64 0,sci .i64 0,sci .i64 0, .p (.sc (.slice none 0 0)), .p (.sc (.slice none 0 0)), .p (.sc (.slice none 0 0))]
@[go_sem] theorem rowsBel_zrow {n k:Nat}:rowsBel n (List.replicate k zrow)=True:=by
  refine eq_true ((rowsBel_iff n _).2 fun row h=>?_)
  rw [List.eq_of_mem_replicate h]
  exact bels_p n [.sc (.int .i64 0), .sc (.int .i64 0), .sc (.int .i64 0), .sc (.slice none 0 0), .sc (.slice none 0 0), .sc (.slice none 0 0)]
@[go_sem] theorem rnRw_zrow {ρ:Nat→Nat} {k:Nat}:rnRw ρ (List.replicate k zrow)=List.replicate k zrow:=by
  induction k with
  | zero=>rfl
  | succ k ih=>rw [List.replicate_succ];show rnms ρ zrow::rnRw ρ (List.replicate k zrow)=_;rw [ih];rfl
attribute [go_sem] fcap
theorem Grow_spec (n:Nat) (h1:1≤n) (hn:n≤1000):PG Tryz.prog 86 [.p (.sc (.slice none 0 0)),sci .i64 (n:Int)] [] 1 (.ref 0 0 0 0) [(0, .arr 6 0 (List.replicate n zrow))]:=by
 refine pg_of 200 (fn:=Tryz.f86) Tryz.func86 rfl (by simp [Tryz.ntmps86]) 0 rfl zC zC zC zC zC fun hs=>?_
 ((try refine zW ?_);(try with_reducible exact True.intro))
 ((try refine zO ?_);(try with_reducible exact True.intro))
 refine⟨[0],⟨rfl,⟨by decide,trivial⟩,trivial,trivial⟩,rfl,?_⟩
 (try simp (maxSteps:=2000000) only [go_sem,simprocAttr,List.getD_cons_zero,zrow])
abbrev lPP (a b:List Pc):IV:= .p (.imm 1 [[.imm 6 (pr ePc a)], [.imm 6 (pr ePc b)]])
def sumP (a b:List Pc) (i:Nat):Nat:=if i=0 then 0 else if i=1 then a.length else a.length+b.length
theorem Concat_spec (a b:List Pc) (hn:a.length+b.length≤1000) (h1:1≤a.length+b.length):
  PG Tryz.prog 44 [lPP a b] [] 1 (.ref 0 2 0 (a++b).length) [(0,pB 2 (a++b))]:=by
 refine pg_of 200 (fn:=Tryz.f44) Tryz.func44 rfl (by simp [Tryz.ntmps44]) 0 rfl zC zC zC zC zC fun hs=>?_
 ((try refine zW ?_);(try with_reducible exact True.intro))
 refine walk_loop 200 200 (fun i:Nat=>i≤2) (fun i=>⟨36, [(0,lPP a b),(3,sci .i64 (sumP a b i:Int)),(9,lPP a b),(10,sci .i64 2),(11,sci .i64 (i:Int))], [],0, []⟩) (fun i=>2 - i) 0 (by omega) ?_ ?_
 ·constructor<;>(try simp (maxSteps:=2000000) (disch:=omega) only [go_sem,simprocAttr,zD,zE,sumP,Int.natCast_zero])
 ·intro i hi
  ((try refine zW ?_);(try with_reducible exact True.intro))
  have h3:i=0∨i=1∨i=2:=by omega
  rcases h3 with rfl | rfl | rfl
  ·(try simp (maxSteps:=2000000) (disch:=omega) only [go_sem,simprocAttr,zD,zE,sumP,Int.natCast_zero,Int.natCast_one])
   have c1: ¬((a.length:Int) < 0):=by omega
   (try simp (maxSteps:=2000000) (disch:=omega) only [go_sem,simprocAttr,zD,zE,c1])
   refine⟨1,by omega,by omega,?_⟩
   constructor<;>(try simp (maxSteps:=2000000) (disch:=omega) only [go_sem,simprocAttr,zD,zE,sumP,Int.natCast_one])
  ·(try simp (maxSteps:=2000000) (disch:=omega) only [go_sem,simprocAttr,zD,zE,sumP,Int.natCast_one])
   have c1: ¬((a.length:Int)+(b.length:Int) < 0):=by omega
   (try simp (maxSteps:=2000000) (disch:=omega) only [go_sem,simprocAttr,zD,zE,c1])
   refine⟨2,by omega,by omega,?_⟩
   constructor<;>(try simp (maxSteps:=2000000) (disch:=omega) only [go_sem,simprocAttr,zD,zE,sumP,Int.natCast_add])
  ·have e2:((2:Nat):Int)=2:=rfl
   (try simp (maxSteps:=2000000) (disch:=omega) only [go_sem,simprocAttr,zD,zE,sumP,e2])
   (refine at_gr 200 ?_;(refine zW ?_;try with_reducible exact True.intro);refine callG_of [] (Grow_spec (a.length+b.length) h1 hn) zU ?_;((try refine zW ?_);(try with_reducible exact True.intro)))
   ((try refine zO ?_);(try with_reducible exact True.intro))
   (refine walk_trim [6,25,26,27] trivial zL ?_;((try refine zW ?_);(try with_reducible exact True.intro)))
   refine walk_loop 200 200 (fun i:Nat=>i≤2) (fun i=>⟨36, [(6, .ref 0 i 0 (sumP a b i)),(25,lPP a b),(26,sci .i64 2),(27,sci .i64 (i:Int))], [],1,
    [(0, .arr 6 i (if i=0 then List.replicate (a.length+b.length) zrow else if i=1 then ir ePc a else ir ePc (a++b)))]⟩) (fun i=>2 - i) 0 (by omega) ?_ ?_
   ·constructor<;>(try simp (maxSteps:=2000000) (disch:=omega) only [go_sem,simprocAttr,zD,zE,sumP,Int.natCast_zero,zrow])
   ·clear hi
    intro i hi
    ((try refine zW ?_);(try with_reducible exact True.intro))
    have h3:i=0∨i=1∨i=2:=by omega
    rcases h3 with rfl | rfl | rfl
    ·(try simp (maxSteps:=2000000) (disch:=omega) only [go_sem,simprocAttr,zD,zE,sumP,Int.natCast_zero,Int.natCast_one])
     refine⟨1,by omega,by omega,?_⟩
     constructor<;>(try simp (maxSteps:=2000000) (disch:=omega) only [go_sem,simprocAttr,zD,zE,sumP,Int.natCast_one])
    ·(try simp (maxSteps:=2000000) (disch:=omega) only [go_sem,simprocAttr,zD,zE,sumP,Int.natCast_one])
     refine⟨2,by omega,by omega,?_⟩
     have e3:ir ePc a++ir ePc b=ir ePc (a++b):=by simp [ir]
     constructor<;>(try simp (maxSteps:=2000000) (disch:=omega) only [go_sem,simprocAttr,zD,zE,sumP,e3])
    ·(try simp (maxSteps:=2000000) (disch:=omega) only [go_sem,simprocAttr,zD,zE,sumP,e2])
     refine⟨[0],⟨rfl,⟨by decide,trivial⟩,trivial,trivial⟩,?_⟩
     (try simp (maxSteps:=2000000) only [go_sem,simprocAttr,List.getD_cons_zero])
theorem Grow0_spec:PG Tryz.prog 86 [.p (.sc (.slice none 0 0)),sci .i64 0] [] 0 (.p (.sc (.slice none 0 0))) []:=by
 refine pg_of 200 (fn:=Tryz.f86) Tryz.func86 rfl (by simp [Tryz.ntmps86]) 0 rfl zC zC zC zC zC fun hs=>?_
 ((try refine zO ?_);(try with_reducible exact True.intro))
theorem Concat0_spec:PG Tryz.prog 44 [lPP [] []] [] 1 (.ref 0 1 0 0) [(0,pB 1 [])]:=by
 refine pg_of 200 (fn:=Tryz.f44) Tryz.func44 rfl (by simp [Tryz.ntmps44]) 0 rfl zC zC zC zC zC fun hs=>?_
 ((try refine zW ?_);(try with_reducible exact True.intro))
 refine walk_loop 200 200 (fun i:Nat=>i≤2) (fun i=>⟨36, [(0,lPP [] []),(3,sci .i64 0),(9,lPP [] []),(10,sci .i64 2),(11,sci .i64 (i:Int))], [],0, []⟩) (fun i=>2 - i) 0 (by omega) ?_ ?_
 ·constructor<;>(try simp (maxSteps:=2000000) (disch:=omega) only [go_sem,simprocAttr,zD,zE,Int.natCast_zero])
 ·intro i hi
  ((try refine zW ?_);(try with_reducible exact True.intro))
  have h3:i=0∨i=1∨i=2:=by omega
  rcases h3 with rfl | rfl | rfl
  ·(try simp (maxSteps:=2000000) (disch:=omega) only [go_sem,simprocAttr,zD,zE,Int.natCast_zero,Int.natCast_one,pr_nil])
   refine⟨1,by omega,by omega,?_⟩
   constructor<;>(try simp (maxSteps:=2000000) (disch:=omega) only [go_sem,simprocAttr,zD,zE,Int.natCast_one])
  ·(try simp (maxSteps:=2000000) (disch:=omega) only [go_sem,simprocAttr,zD,zE,Int.natCast_one,pr_nil])
   refine⟨2,by omega,by omega,?_⟩
   have e2:((2:Nat):Int)=2:=rfl
   constructor<;>(try simp (maxSteps:=2000000) (disch:=omega) only [go_sem,simprocAttr,zD,zE,e2])
  ·have e2:((2:Nat):Int)=2:=rfl
   (try simp (maxSteps:=2000000) (disch:=omega) only [go_sem,simprocAttr,zD,zE,e2])
   (refine at_gr 200 ?_;(refine zW ?_;try with_reducible exact True.intro);refine callG_of [] (Grow0_spec) zU ?_;((try refine zW ?_);(try with_reducible exact True.intro)))
   ((try refine zO ?_);(try with_reducible exact True.intro))
   (refine walk_trim [6,25,26,27] trivial zL ?_;((try refine zW ?_);(try with_reducible exact True.intro)))
   refine walk_loop 200 200 (fun i:Nat=>i≤2) (fun i=>⟨36, [(6,if i=0 then .p (.sc (.slice none 0 0)) else .ref 0 (i - 1) 0 0),(25,lPP [] []),(26,sci .i64 2),(27,sci .i64 (i:Int))], [],if i=0 then 0 else 1,
    if i=0 then [] else [(0, .arr 6 (i - 1) [])]⟩) (fun i=>2 - i) 0 (by omega) ?_ ?_
   ·constructor<;>(try simp (maxSteps:=2000000) (disch:=omega) only [go_sem,simprocAttr,zD,zE,Int.natCast_zero])
   ·clear hi
    intro i hi
    have h3:i=0∨i=1∨i=2:=by omega
    rcases h3 with rfl | rfl | rfl
    ·(try simp (maxSteps:=2000000) (disch:=omega) only [go_sem,simprocAttr,zD,zE,Int.natCast_zero,Int.natCast_one])
     refine⟨1,by omega,by omega,?_⟩
     constructor<;>(try simp (maxSteps:=2000000) (disch:=omega) only [go_sem,simprocAttr,zD,zE,Int.natCast_one])
    ·(try simp (maxSteps:=2000000) (disch:=omega) only [go_sem,simprocAttr,zD,zE,Int.natCast_one])
     refine⟨2,by omega,by omega,?_⟩
     constructor<;>(try simp (maxSteps:=2000000) (disch:=omega) only [go_sem,simprocAttr,zD,zE,e2])
    ·(try simp (maxSteps:=2000000) (disch:=omega) only [go_sem,simprocAttr,zD,zE,e2])
     refine⟨[0],⟨rfl,⟨by decide,trivial⟩,trivial,trivial⟩,?_⟩
     (try simp (maxSteps:=2000000) only [go_sem,simprocAttr,List.getD_cons_zero])
end Go.Proofs.GY
/- Pieces merged. -/
namespace Go.Proofs.GY
open Go Go.Idl Go.Proofs Go.GN
set_option maxHeartbeats 20000000
set_option maxRecDepth 100000
def mrg (a b:List Pc):List Pc × Int:=match merge Pc.node a b with
 | some s=>(s,0)
 | none=>([],4)
theorem mrg_same {a b s:List Pc} (hs:s=stableL (a++b)) {k:Nat} (h:k+1 < s.length) (e:s[k].node=s[k+1].node):mrg a b=([],4):=by
 unfold mrg
 cases hm:merge Pc.node a b with
 | none=>rfl
 | some t=>
   exfalso
   obtain⟨p,r⟩:=(merge_some Pc.node).1 hm
   have nd:(t.map Pc.node).Nodup:=by
    rw [List.nodup_iff_pairwise_ne,List.pairwise_map]
    exact r.imp fun h=>by omega
   have ps:s.Perm (a++b):=by rw [hs];exact stableL_perm _
   have nd2:(s.map Pc.node).Nodup:=((p.trans ps.symm).map Pc.node).nodup_iff.1 nd
   rw [List.nodup_iff_pairwise_ne,List.pairwise_map] at nd2
   exact List.pairwise_iff_getElem.1 nd2 k (k+1) (by omega) h (by omega) e
theorem untwin: ∀ {s:List Pc},(∀k (h:k+1 < s.length),s[k].node≠s[k+1].node)→twins Pc.node s=false
 | [],_=>rfl
 | [_],_=>rfl
 | x::y::r,h=>by
   unfold twins
   rw [Bool.or_eq_false_iff,decide_eq_false_iff_not]
   exact⟨h 0 (by simp),untwin fun k hk=>h (k+1) (by simpa using hk)⟩
theorem mrg_unlike {a b s:List Pc} (hs:s=stableL (a++b)) (h: ∀k (h:k+1 < s.length),s[k].node≠s[k+1].node):mrg a b=(s,0):=by
 have:merge Pc.node a b=some s:=by
  refine(merge_some Pc.node).2 ⟨by rw [hs];exact stableL_perm _,?_⟩
  exact rising_of_up Pc.node (by rw [hs];exact stableL_up _) (untwin h)
 unfold mrg
 rw [this]
theorem Merge_spec (a b:List Pc) (ha: ∀p∈a,gPc p) (hb: ∀p∈b,gPc p) (hn:a.length+b.length < 40):
  Pure Tryz.prog 11 [lPs a,lPs b] (.tup [lPs (mrg a b).1,sci .i64 (mrg a b).2]):=by
 obtain⟨s,hs⟩: ∃s,s=stableL (a++b):=⟨_,rfl⟩
 have same:= @mrg_same a b s hs
 have unl:= @mrg_unlike a b s hs
 have hl:s.length=(a++b).length:=by rw [hs];exact(stableL_perm _).length_eq
 have hab:(a++b).length=a.length+b.length:=List.length_append
 have sp:=fun g=>sort_spec g (a++b) (by omega)
 rw [←hs] at sp
 clear hs
 generalize hr:mrg a b=res at *
 refine pcall0 200 (fn:=Tryz.f11) Tryz.func11 rfl (by simp [Tryz.ntmps11]) zB zB fun hs=>?_
 ((try refine zW ?_);(try with_reducible exact True.intro))
 (refine at_call 200 ?_;(refine zW ?_;try with_reducible exact True.intro);refine callA_of (told_spec a ha (by omega)) zB ?_;((try refine zW ?_);(try with_reducible exact True.intro)))
 ((try refine zW ?_);(try with_reducible exact True.intro))
 (refine at_call 200 ?_;(refine zW ?_;try with_reducible exact True.intro);refine callA_of (told_spec b hb (by omega)) zB ?_;((try refine zW ?_);(try with_reducible exact True.intro)))
 ((try refine zW ?_);(try with_reducible exact True.intro))
 rcases Nat.eq_zero_or_pos (a.length+b.length) with h0 | h0
 ·have ea:a= []:=List.eq_nil_of_length_eq_zero (by omega)
  have eb:b= []:=List.eq_nil_of_length_eq_zero (by omega)
  subst ea eb
  have es:s= []:=List.eq_nil_of_length_eq_zero (by rw [hl];rfl)
  subst es
  have er:res=([],0):=unl (fun k h=>by simp at h)
  subst er
  have sp0:=sp 1
  simp only [List.append_nil,List.length_nil] at sp0
  (refine at_g 200 ?_;(refine zW ?_;try with_reducible exact True.intro);refine callG_of [] (Concat0_spec) zU ?_;((try refine zW ?_);(try with_reducible exact True.intro)))
  ((try refine zO ?_);(try with_reducible exact True.intro))
  (refine at_g 200 ?_;(refine zW ?_;try with_reducible exact True.intro);refine callG_of [0] (sp0) (by simp (maxSteps:=2000000) (disch:=omega) only [go_sem,simprocAttr,zD,zE,cmpF]) ?_;((try refine zW ?_);(try with_reducible exact True.intro)))
  ((try refine zO ?_);(try with_reducible exact True.intro))
  (refine walk_trim [6,17,18,19] trivial zL ?_;((try refine zW ?_);(try with_reducible exact True.intro)))
  refine walk_floop 200 200 (fun i:Nat=>i=0) (fun i=>⟨39, [(6, .ref 0 1 0 0),(17, .ref 0 1 0 0),(18,sci .i64 0),(19,sci .i64 0)], [],1, [(0,pB 1 [])]⟩) (fun i=>i) 0 [] rfl ?_ ?_
  ·constructor<;>((try refine zO ?_);(try with_reducible exact True.intro))
  ·rintro i rfl
   ((try refine zO ?_);(try with_reducible exact True.intro))
 ·(refine at_g 200 ?_;(refine zW ?_;try with_reducible exact True.intro);refine callG_of [] (Concat_spec a b (by omega) (by omega)) zU ?_;((try refine zW ?_);(try with_reducible exact True.intro)))
  ((try refine zO ?_);(try with_reducible exact True.intro))
  (refine at_g 200 ?_;(refine zW ?_;try with_reducible exact True.intro);refine callG_of [0] (sp 2) (by simp (maxSteps:=2000000) (disch:=omega) only [go_sem,simprocAttr,zD,zE,cmpF]) ?_;((try refine zW ?_);(try with_reducible exact True.intro)))
  ((try refine zO ?_);(try with_reducible exact True.intro))
  (refine walk_trim [6,17,18,19] trivial zL ?_;((try refine zW ?_);(try with_reducible exact True.intro)))
  refine walk_floop 200 200 (fun i:Nat=>i≤s.length∧ ∀k (h:k+1 < s.length),k+1 < i→s[k].node≠s[k+1].node)
   (fun i=>⟨39, [(6, .ref 0 2 0 s.length),(17, .ref 0 2 0 s.length),(18,sci .i64 (s.length:Int)),(19,sci .i64 (i:Int))], [],1, [(0,pB 2 s)]⟩) (fun i=>s.length - i) 0 [] ⟨Nat.zero_le _,fun k h h2=>by omega⟩ ?_ ?_
  ·constructor<;>(try simp (maxSteps:=2000000) (disch:=omega) only [go_sem,simprocAttr,zD,zE,Int.natCast_zero,hl,hab,Int.natCast_add])
  ·rintro i ⟨hi,hk⟩
   ((try refine zW ?_);(try with_reducible exact True.intro))
   by_cases li:i < s.length
   ·have gi:(ir ePc s)[i]? =some ((ePc s[i]).map .p):=ir_get' (List.getElem?_eq_getElem li)
    cases i with
    | zero=>
      (try simp (maxSteps:=2000000) (disch:=omega) only [go_sem,simprocAttr,zD,zE,gi,ePc,Int.natCast_zero])
      (refine walk_trim [6,7,8,17,18,19] trivial zL ?_;(refine zW ?_;try with_reducible exact True.intro);refine irun_walk (id:=6) (n:=200) [none,none,none,none,none,none,none,none,none,none,none,none,none] mixed (by kernel_rfl) ?_)
      (try simp (maxSteps:=2000000) (disch:=omega) only [go_sem,simprocAttr,zD,zE,ePc,Int.natCast_zero])
      refine⟨1, [1],⟨by omega,fun k h h2=>by omega⟩,by omega,?_⟩
      constructor<;>(try simp (maxSteps:=2000000) (disch:=omega) only [go_sem,simprocAttr,zD,zE,Int.natCast_one])
    | succ i=>
      have li2:i < s.length:=by omega
      have gi2:(ir ePc s)[i]? =some ((ePc s[i]).map .p):=ir_get' (List.getElem?_eq_getElem li2)
      have tn:((i:Int)+1).toNat=i+1:=rfl
      (try simp (maxSteps:=2000000) (disch:=omega) only [go_sem,simprocAttr,zD,zE,gi,ePc,tn])
      (refine walk_trim [6,7,8,17,18,19] trivial zL ?_;(refine zW ?_;try with_reducible exact True.intro);refine irun_walk (id:=6) (n:=200) [none,none,none,none,none,none,none,none,none,none,none,none,none] mixed (by kernel_rfl) ?_)
      (try simp (maxSteps:=2000000) (disch:=omega) only [go_sem,simprocAttr,zD,zE,gi2,ePc,Int.add_sub_cancel,tn])
      by_cases hc:s[i+1].node=s[i].node
      ·have er:=same (k:=i) li hc.symm
       subst er
       (try simp (maxSteps:=2000000) (disch:=omega) only [go_sem,simprocAttr,zD,zE,hc])
      ·have hc2:(s[i+1].node==s[i].node)=false:=by rw [beq_eq_false_iff_ne];exact hc
       (try simp (maxSteps:=2000000) (disch:=omega) only [go_sem,simprocAttr,zD,zE,hc2])
       refine⟨i+1+1, [1],⟨by omega,fun k h h2=>?_⟩,by omega,?_⟩
       ·by_cases e:k=i
        ·subst e;exact fun q=>hc q.symm
        ·exact hk k h (by omega)
       ·constructor<;>(try simp (maxSteps:=2000000) (disch:=omega) only [go_sem,simprocAttr,zD,zE,Int.natCast_add,Int.natCast_one])
        all_goals omega
   ·have er:=unl fun k h=>hk k h (by omega)
    subst er
    ((try refine zO ?_);(try with_reducible exact True.intro))
end Go.Proofs.GY
