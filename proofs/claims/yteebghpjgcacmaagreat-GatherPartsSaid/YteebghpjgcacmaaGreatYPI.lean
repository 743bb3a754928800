/- Facts that the proofs of this claim lean on. -/
import Derived.Test.YteebghpjgcacmaaGreatYPF
set_option linter.unusedSimpArgs false
set_option linter.unusedVariables false
/- Pieces merged in place. -/
namespace Go.Proofs.GY
open Go Go.Idl Go.Proofs Go.GN
set_option maxHeartbeats 20000000
set_option maxRecDepth 100000
def leP (x y:Pc):Bool:=decide (x.node≤y.node)
def Up (l:List Pc):Prop:=l.Pairwise fun x y=>x.node≤y.node
theorem merge_one {x:Pc} {B1 B2:List Pc} (h1: ∀y∈B1,y.node < x.node) (h2: ∀y∈B2,x.node≤y.node):List.merge [x] (B1++B2) leP=B1++x::B2:=by
 have e1:=merge_split (le:=leP) [] B1 [x] B2 (fun _ h=>by cases h) (fun z hz y hy=>by simp at hz;subst hz;have:=h1 y hy;unfold leP;simp;omega)
 have e2:=merge_split (le:=leP) [x] [] [] B2 (fun z hz y hy=>by simp at hz;subst hz;have:=h2 y hy;unfold leP;simpa using this) (fun _ h=>by cases h)
 simp only [List.nil_append,List.append_nil,List.nil_merge,List.merge_right] at e1 e2
 rw [e1,e2];rfl
theorem merge_last {y:Pc} {A1 A2:List Pc} (h1: ∀x∈A1,x.node≤y.node) (h2: ∀x∈A2,y.node < x.node):List.merge (A1++A2) [y] leP=A1++y::A2:=by
 have e1:=merge_split (le:=leP) A1 [] A2 [y] (fun x hx z hz=>by simp at hz;subst hz;have:=h1 x hx;unfold leP;simpa using this) (fun _ _ _ h=>by cases h)
 have e2:=merge_split (le:=leP) [] [y] A2 [] (fun _ h=>by cases h) (fun x hx z hz=>by simp at hz;subst hz;have:=h2 x hx;unfold leP;simp;omega)
 simp only [List.nil_append,List.append_nil,List.nil_merge,List.merge_right] at e1 e2
 rw [e1,e2];rfl
theorem up_get {l:List Pc} (h:Up l) {i j:Nat} (hi:i≤j) (hj:j < l.length):(l[i]'(by omega)).node≤l[j].node:=by
 rcases Nat.lt_or_ge i j with hlt | hge
 ·exact List.pairwise_iff_getElem.1 h i j (by omega) hj hlt
 ·have:i=j:=by omega
  subst this;exact Int.le_refl _
theorem mid_of {i j:Nat} (h:i+j < 100000):IntKind.i64.wrap ((IntKind.u64.wrap ((i:Int)+(j:Int))).fdiv (2 ^ min 1 64))=(((i+j) / 2:Nat):Int):=by
 have e1:IntKind.u64.wrap ((i:Int)+(j:Int))=((i+j:Nat):Int):=by rw [IntKind.wrap_u64];omega
 have e2:(2:Int) ^ min 1 64=2:=by decide
 rw [e1,e2,Int.fdiv_eq_ediv_of_nonneg _ (by decide),IntKind.wrap_i64];omega
theorem swap_at (P S:List Pc) (x y:Pc):((P++x::y::S).set P.length y).set (P.length+1) x=P++y::x::S:=by
 rw [List.set_append_right _ _ (Nat.le_refl _),Nat.sub_self,List.set_append_right _ _ (by omega)]
 simp
theorem at_0 (P S:List Pc) (x:Pc):(P++x::S)[P.length]? =some x:=by simp
theorem at_1 (P S:List Pc) (x y:Pc):(P++x::y::S)[P.length+1]? =some y:=by
 rw [List.getElem?_append_right (by omega)];simp
theorem sym_one (g:Nat) (L:List Pc) (x:Pc) (B R:List Pc) (hB:1≤B.length) (hu:Up B) (hn:(L++x::(B++R)).length < 1000):
  PG Tryz.prog 119 [.ref 0 g 0 (L++x::(B++R)).length,sci .i64 (L.length:Int),sci .i64 ((L.length+1:Nat):Int),sci .i64 ((L.length+1+B.length:Nat):Int),cmpF]
   [pB g (L++x::(B++R))] 0 (.tup []) [(0,pB g (L++List.merge [x] B leP++R))]:=by
 generalize hl:L++x::(B++R)=l at *
 generalize ha:L.length=a at *
 generalize hm:a+1=m at *
 generalize hb:m+B.length=b at *
 have hlen:b≤l.length:=by rw [←hl];simp;omega
 have hgx:l[a]? =some x:=by rw [←hl,List.getElem?_append_right (by omega)];simp [ha]
 have hgB: ∀k (hk:k < B.length),l[m+k]? =some B[k]:=fun k hk=>by
  rw [←hl,List.getElem?_append_right (by omega),show m+k - L.length=k+1 by omega]
  simp only [List.getElem?_cons_succ]
  rw [List.getElem?_append_left hk,List.getElem?_eq_getElem hk]
 refine pg_of 200 (fn:=Tryz.f119) Tryz.func119 rfl (by simp [Tryz.ntmps119]) 1 rfl zC zC zC zC zC fun hs=>?_
 ((try refine zW ?_);(try with_reducible exact True.intro))
 have s1:((m:Int) - (a:Int)==1)=true:=by rw [beq_iff_eq];omega
 (try simp (maxSteps:=2000000) (disch:=omega) only [go_sem,simprocAttr,zD,zE,s1])
 refine walk_loop 200 200 (fun p:Nat × Nat=>(m≤p.1∧p.1≤p.2∧p.2≤b)∧(∀k (hk:k < B.length),m+k < p.1→B[k].node < x.node)∧(∀k (hk:k < B.length),p.2≤m+k→x.node≤B[k].node))
  (fun p=>⟨220, [(0, .ref 0 g 0 l.length),(1,sci .i64 (a:Int)),(4,cmpF),(10,sci .i64 (p.1:Int)),(11,sci .i64 (p.2:Int))], [],1, [(0,pB g l)]⟩) (fun p=>p.2 - p.1) (m,b) ?_ ?_ ?_
 ·exact⟨⟨Nat.le_refl _,by simp only;omega,Nat.le_refl _⟩,fun k _ h=>by simp only at h;omega,fun k hk h=>by simp only at h;omega⟩
 ·constructor<;>((try refine zO ?_);(try with_reducible exact True.intro))
 ·rintro⟨i,j⟩ ⟨⟨i1,i2,i3⟩,i4,i5⟩
  simp only at i1 i2 i3 i4 i5
  ((try refine zW ?_);(try with_reducible exact True.intro))
  by_cases hij:i < j
  ·have hij':(i:Int) < (j:Int):=by omega
   (try simp (maxSteps:=2000000) (disch:=omega) only [go_sem,simprocAttr,zD,zE,hij'])
   obtain⟨h,hmid,h1,h2⟩: ∃h:Nat,IntKind.i64.wrap ((IntKind.u64.wrap ((i:Int)+(j:Int))).fdiv (2 ^ min 1 64))=(h:Int)∧i≤h∧h < j:=⟨(i+j) / 2,mid_of (by omega),by omega,by omega⟩
   obtain⟨k,rfl⟩: ∃k,h=m+k:=⟨h - m,by omega⟩
   have hk:k < B.length:=by omega
   have gh:(ir ePc l)[m+k]? =some ((ePc B[k]).map .p):=ir_get' (hgB k hk)
   have ga:(ir ePc l)[a]? =some ((ePc x).map .p):=ir_get' hgx
   generalize hh:m+k=h at *
   (try simp (maxSteps:=2000000) (disch:=omega) only [go_sem,simprocAttr,zD,zE,hmid])
   (refine walk_trim [0,1,4,10,11,12] trivial zL ?_;(refine zW ?_;try with_reducible exact True.intro);refine irun_walk (id:=5) (n:=200) [none,none,none,none,none,none,none,none,none,some [],none] mixed (by kernel_rfl) ?_)
   (try simp (maxSteps:=2000000) (disch:=omega) only [go_sem,simprocAttr,zD,zE,gh,ga,ePc])
   (refine at_dcall ?_;(refine zW ?_;try with_reducible exact True.intro);refine callA_of (cmpP_spec B[k] x) zB ?_;((try refine zW ?_);(try with_reducible exact True.intro)))
   ((try refine zO ?_);(try with_reducible exact True.intro))
   by_cases hc:B[k].node < x.node
   ·have hc3:decide (cmpI B[k].node x.node < 0)=true:=by rw [cmp_lt];unfold ltP;simpa using hc
    (try simp (maxSteps:=2000000) (disch:=omega) only [go_sem,simprocAttr,zD,zE,hc3])
    refine⟨(h+1,j),⟨⟨by simp only;omega,by simp only;omega,i3⟩,fun q hq hlt=>?_,i5⟩,by simp only;omega,?_⟩
    ·simp only at hlt
     have:=up_get hu (show q≤k by omega) hk
     omega
    ·constructor<;>((try refine zO ?_);(try with_reducible exact True.intro))
   ·have hc3:decide (cmpI B[k].node x.node < 0)=false:=by rw [cmp_lt];unfold ltP;simpa using hc
    (try simp (maxSteps:=2000000) (disch:=omega) only [go_sem,simprocAttr,zD,zE,hc3])
    refine⟨(i,h),⟨⟨i1,h1,by simp only;omega⟩,i4,fun q hq hlt=>?_⟩,by simp only;omega,?_⟩
    ·simp only at hlt
     have:=up_get hu (show k≤q by omega) hq
     omega
    ·constructor<;>((try refine zO ?_);(try with_reducible exact True.intro))
  ·have hij2:i=j:=by omega
   subst hij2
   obtain⟨c0,rfl⟩: ∃c0,i=m+c0:=⟨i - m,by omega⟩
   have hB1:(B.take c0).length=c0:=by rw [List.length_take];omega
   have hm1:List.merge [x] B leP=B.take c0++x::B.drop c0:=by
    rw [←merge_one (x:=x) (B1:=B.take c0) (B2:=B.drop c0),List.take_append_drop]
    ·intro y hy
     obtain⟨q,hq,rfl⟩:=List.getElem_of_mem hy
     rw [List.getElem_take]
     exact i4 q (by omega) (by omega)
    ·intro y hy
     obtain⟨q,hq,rfl⟩:=List.getElem_of_mem hy
     rw [List.getElem_drop]
     rw [List.length_drop] at hq
     exact i5 (c0+q) (by omega) (by omega)
   rw [hm1]
   have eB:l=L++x::(B.take c0++(B.drop c0++R)):=by rw [←hl,←List.append_assoc (B.take c0),List.take_append_drop]
   have eF:L++(B.take c0++x::B.drop c0)++R=L++(B.take c0++x::(B.drop c0++R)):=by simp
   rw [eF]
   clear i4 i5 hm1 hgB eF
   generalize B.take c0=B1 at *
   generalize B.drop c0++R=R2 at *
   have hlen2:l.length=a+1+B1.length+R2.length:=by rw [eB];simp;omega
   ((try refine zO ?_);(try with_reducible exact True.intro))
   (refine walk_trim [0,10,13] trivial zL ?_;((try refine zW ?_);(try with_reducible exact True.intro)))
   refine walk_loop 200 200 (fun p:Nat × List Pc=>a≤p.1∧p.1≤a+c0∧p.2=L++(B1.take (p.1 - a)++x::(B1.drop (p.1 - a)++R2)))
    (fun p=>⟨220, [(0, .ref 0 g 0 l.length),(10,sci .i64 ((m+c0:Nat):Int)),(13,sci .i64 (p.1:Int))], [],1, [(0,pB g p.2)]⟩) (fun p=>a+c0 - p.1) (a,l) ?_ ?_ ?_
   ·refine⟨Nat.le_refl _,by simp only;omega,?_⟩
    simp only [Nat.sub_self,List.take_zero,List.drop_zero,List.nil_append]
    exact eB
   ·constructor<;>((try refine zO ?_);(try with_reducible exact True.intro))
   ·rintro⟨k,M⟩ ⟨k1,k2,k3⟩
    simp only at k1 k2 k3
    obtain⟨c,hk⟩: ∃c,a+c=k:=⟨k - a,by omega⟩
    rw [show k - a=c by omega] at k3
    ((try refine zW ?_);(try with_reducible exact True.intro))
    have hml:M.length=l.length:=by
     rw [k3,hlen2]
     simp only [List.length_append,List.length_cons,List.length_take,List.length_drop]
     omega
    by_cases hc:c < c0
    ·have hc':(k:Int) < (m:Int)+(c0:Int) - 1:=by omega
     obtain⟨y,hy⟩: ∃y,B1.drop c=y::B1.drop (c+1):=⟨B1[c]'(by omega),List.drop_eq_getElem_cons (by omega)⟩
     have hty:B1.take (c+1)=B1.take c++ [y]:=by
      have e:B1[c]'(by omega)=y:=by
       have:=List.drop_eq_getElem_cons (l:=B1) (i:=c) (by omega)
       rw [this] at hy
       exact(List.cons.inj hy).1
      rw [List.take_succ_eq_append_getElem (by omega),e]
     have hP:(L++B1.take c).length=k:=by rw [List.length_append,List.length_take,ha];omega
     have eM:M=(L++B1.take c)++x::y::(B1.drop (c+1)++R2):=by rw [k3,hy];simp
     generalize hPP:L++B1.take c=P at *
     generalize hSS:B1.drop (c+1)++R2=S at *
     have g0:(ir ePc M)[k]? =some ((ePc x).map .p):=ir_get' (by rw [eM,←hP];exact at_0 ..)
     have g1:(ir ePc M)[k+1]? =some ((ePc y).map .p):=ir_get' (by rw [eM,←hP];exact at_1 ..)
     have sw:(M.set k y).set (k+1) x=P++y::x::S:=by rw [eM,←hP];exact swap_at ..
     have g2:(ir ePc (M.set k y))[k+1]? =some ((ePc y).map .p):=ir_get' (by
      rw [List.getElem?_set_ne (by omega),eM,←hP];exact at_1 ..)
     have tn:((k:Int)+1).toNat=k+1:=rfl
     (try simp (maxSteps:=2000000) (disch:=omega) only [go_sem,simprocAttr,zD,zE,hc'])
     (refine walk_trim [0,10,13] trivial zL ?_;(refine zW ?_;try with_reducible exact True.intro);refine irun_walk (id:=11) (n:=200) [none,none,none,none,none,none,none,none,none,none,none,none,none,none,none,some [2,3,4],none,some []] mixed (by kernel_rfl) ?_)
     (try simp (maxSteps:=2000000) (disch:=omega) only [go_sem,simprocAttr,zD,zE,g0,g1,g2,tn,ePc])
     refine⟨(k+1,P++y::x::S),⟨by simp only;omega,by simp only;omega,?_⟩,by simp only;omega,?_⟩
     ·simp only
      rw [show k+1 - a=c+1 by omega,hty,←hPP,←hSS];simp
     ·constructor<;>(try simp (maxSteps:=2000000) (disch:=omega) only [go_sem,simprocAttr,zD,zE,sw,hml])
    ·have hc0:c=c0:=by omega
     subst hc0
     have hc': ¬((k:Int) < (m:Int)+(c:Int) - 1):=by omega
     have eM:M=L++(B1++x::R2):=by rw [k3,List.take_of_length_le (by omega),List.drop_eq_nil_of_le (by omega)];simp
     (try simp (maxSteps:=2000000) (disch:=omega) only [go_sem,simprocAttr,zD,zE,hc',eM])
theorem swap_at' (P S:List Pc) (x y:Pc):((P++x::y::S).set (P.length+1) x).set P.length y=P++y::x::S:=by
 rw [List.set_append_right _ _ (by omega),List.set_append_right _ _ (Nat.le_refl _),Nat.sub_self]
 simp
theorem sym_last (g:Nat) (L A:List Pc) (y:Pc) (R:List Pc) (hA:2≤A.length) (hu:Up A) (hn:(L++A++y::R).length < 1000):
  PG Tryz.prog 119 [.ref 0 g 0 (L++A++y::R).length,sci .i64 (L.length:Int),sci .i64 ((L.length+A.length:Nat):Int),sci .i64 ((L.length+A.length+1:Nat):Int),cmpF]
   [pB g (L++A++y::R)] 0 (.tup []) [(0,pB g (L++List.merge A [y] leP++R))]:=by
 generalize hl:L++A++y::R=l at *
 generalize ha:L.length=a at *
 generalize hm:a+A.length=m at *
 generalize hb:m+1=b at *
 have hlen:b≤l.length:=by rw [←hl];simp;omega
 have hgy:l[m]? =some y:=by rw [←hl,List.getElem?_append_right (by simp;omega),List.length_append,show m - (L.length+A.length)=0 by omega];rfl
 have hgA: ∀k (hk:k < A.length),l[a+k]? =some A[k]:=fun k hk=>by
  rw [←hl,List.append_assoc,List.getElem?_append_right (by omega),show a+k - L.length=k by omega,List.getElem?_append_left hk,List.getElem?_eq_getElem hk]
 refine pg_of 200 (fn:=Tryz.f119) Tryz.func119 rfl (by simp [Tryz.ntmps119]) 1 rfl zC zC zC zC zC fun hs=>?_
 ((try refine zW ?_);(try with_reducible exact True.intro))
 have s1:((m:Int) - (a:Int)==1)=false:=by rw [beq_eq_false_iff_ne];omega
 have s2:((b:Int) - (m:Int)==1)=true:=by rw [beq_iff_eq];omega
 (try simp (maxSteps:=2000000) (disch:=omega) only [go_sem,simprocAttr,zD,zE,s1,s2])
 refine walk_loop 200 200 (fun p:Nat × Nat=>(a≤p.1∧p.1≤p.2∧p.2≤m)∧(∀k (hk:k < A.length),a+k < p.1→A[k].node≤y.node)∧(∀k (hk:k < A.length),p.2≤a+k→y.node < A[k].node))
  (fun p=>⟨220, [(0, .ref 0 g 0 l.length),(2,sci .i64 (m:Int)),(4,cmpF),(14,sci .i64 (p.1:Int)),(15,sci .i64 (p.2:Int))], [],1, [(0,pB g l)]⟩) (fun p=>p.2 - p.1) (a,m) ?_ ?_ ?_
 ·exact⟨⟨Nat.le_refl _,by simp only;omega,Nat.le_refl _⟩,fun k _ h=>by simp only at h;omega,fun k hk h=>by simp only at h;omega⟩
 ·constructor<;>((try refine zO ?_);(try with_reducible exact True.intro))
 ·rintro⟨i,j⟩ ⟨⟨i1,i2,i3⟩,i4,i5⟩
  simp only at i1 i2 i3 i4 i5
  ((try refine zW ?_);(try with_reducible exact True.intro))
  by_cases hij:i < j
  ·have hij':(i:Int) < (j:Int):=by omega
   (try simp (maxSteps:=2000000) (disch:=omega) only [go_sem,simprocAttr,zD,zE,hij'])
   obtain⟨h,hmid,h1,h2⟩: ∃h:Nat,IntKind.i64.wrap ((IntKind.u64.wrap ((i:Int)+(j:Int))).fdiv (2 ^ min 1 64))=(h:Int)∧i≤h∧h < j:=⟨(i+j) / 2,mid_of (by omega),by omega,by omega⟩
   obtain⟨k,hh⟩: ∃k,a+k=h:=⟨h - a,by omega⟩
   have hk:k < A.length:=by omega
   have gh:(ir ePc l)[h]? =some ((ePc A[k]).map .p):=ir_get' (by rw [←hh];exact hgA k hk)
   have gm:(ir ePc l)[m]? =some ((ePc y).map .p):=ir_get' hgy
   (try simp (maxSteps:=2000000) (disch:=omega) only [go_sem,simprocAttr,zD,zE,hmid])
   (refine walk_trim [0,2,4,14,15,16] trivial zL ?_;(refine zW ?_;try with_reducible exact True.intro);refine irun_walk (id:=17) (n:=200) [none,none,none,none,none,none,none,none,none,some [],none,none] mixed (by kernel_rfl) ?_)
   (try simp (maxSteps:=2000000) (disch:=omega) only [go_sem,simprocAttr,zD,zE,gh,gm,ePc])
   (refine at_dcall ?_;(refine zW ?_;try with_reducible exact True.intro);refine callA_of (cmpP_spec y A[k]) zB ?_;((try refine zW ?_);(try with_reducible exact True.intro)))
   ((try refine zO ?_);(try with_reducible exact True.intro))
   by_cases hc:y.node < A[k].node
   ·have hc3:decide (cmpI y.node A[k].node < 0)=true:=by rw [cmp_lt];unfold ltP;simpa using hc
    (try simp (maxSteps:=2000000) (disch:=omega) only [go_sem,simprocAttr,zD,zE,hc3])
    refine⟨(i,h),⟨⟨i1,h1,by simp only;omega⟩,i4,fun q hq hlt=>?_⟩,by simp only;omega,?_⟩
    ·simp only at hlt
     have:=up_get hu (show k≤q by omega) hq
     omega
    ·constructor<;>((try refine zO ?_);(try with_reducible exact True.intro))
   ·have hc3:decide (cmpI y.node A[k].node < 0)=false:=by rw [cmp_lt];unfold ltP;simpa using hc
    (try simp (maxSteps:=2000000) (disch:=omega) only [go_sem,simprocAttr,zD,zE,hc3])
    refine⟨(h+1,j),⟨⟨by simp only;omega,by simp only;omega,i3⟩,fun q hq hlt=>?_,i5⟩,by simp only;omega,?_⟩
    ·simp only at hlt
     have:=up_get hu (show q≤k by omega) hk
     omega
    ·constructor<;>((try refine zO ?_);(try with_reducible exact True.intro))
  ·have hij2:i=j:=by omega
   subst hij2
   obtain⟨c0,hc0⟩: ∃c0,a+c0=i:=⟨i - a,by omega⟩
   have hA1:(A.take c0).length=c0:=by rw [List.length_take];omega
   have hA2:(A.drop c0).length=m - i:=by rw [List.length_drop];omega
   have hm1:List.merge A [y] leP=A.take c0++y::A.drop c0:=by
    rw [←merge_last (y:=y) (A1:=A.take c0) (A2:=A.drop c0),List.take_append_drop]
    ·intro x hx
     obtain⟨q,hq,rfl⟩:=List.getElem_of_mem hx
     rw [List.getElem_take]
     exact i4 q (by omega) (by omega)
    ·intro x hx
     obtain⟨q,hq,rfl⟩:=List.getElem_of_mem hx
     rw [List.getElem_drop]
     rw [List.length_drop] at hq
     exact i5 (c0+q) (by omega) (by omega)
   have eB:l=(L++A.take c0)++(A.drop c0++y::R):=by
    have e:=List.take_append_drop c0 A
    rw [←hl]
    conv=>lhs;rw [←e]
    simp only [List.append_assoc]
   have eF:L++List.merge A [y] leP++R=(L++A.take c0)++y::(A.drop c0++R):=by rw [hm1];simp
   have hLl:(L++A.take c0).length=i:=by rw [List.length_append,hA1,ha,hc0]
   rw [eF]
   clear i4 i5 hm1 hgA eF
   generalize A.drop c0=A2 at *
   generalize L++A.take c0=L2 at *
   have hlen2:l.length=m+1+R.length:=by rw [eB];simp;omega
   ((try refine zO ?_);(try with_reducible exact True.intro))
   (refine walk_trim [0,14,17] trivial zL ?_;((try refine zW ?_);(try with_reducible exact True.intro)))
   refine walk_loop 200 200 (fun p:Nat × List Pc=>i≤p.1∧p.1≤m∧p.2=L2++(A2.take (p.1 - i)++y::(A2.drop (p.1 - i)++R)))
    (fun p=>⟨220, [(0, .ref 0 g 0 l.length),(14,sci .i64 (i:Int)),(17,sci .i64 (p.1:Int))], [],1, [(0,pB g p.2)]⟩) (fun p=>p.1) (m,l) ?_ ?_ ?_
   ·refine⟨i3,Nat.le_refl _,?_⟩
    simp only
    rw [List.take_of_length_le (by omega),List.drop_eq_nil_of_le (by omega)]
    simpa using eB
   ·constructor<;>((try refine zO ?_);(try with_reducible exact True.intro))
   ·rintro⟨k,M⟩ ⟨k1,k2,k3⟩
    simp only at k1 k2 k3
    have hml:M.length=l.length:=by
     rw [k3,hlen2]
     simp only [List.length_append,List.length_cons,List.length_take,List.length_drop]
     omega
    by_cases hc:k=i
    ·subst hc
     have eM:M=L2++y::(A2++R):=by rw [k3];simp
     ((try refine zW ?_);(try with_reducible exact True.intro))
     (try simp (maxSteps:=2000000) (disch:=omega) only [go_sem,simprocAttr,zD,zE,eM])
    ·obtain⟨q,rfl⟩: ∃q,k=q+1:=⟨k - 1,by omega⟩
     ((try refine zW ?_);(try with_reducible exact True.intro))
     obtain⟨c,hcq⟩: ∃c,i+c=q:=⟨q - i,by omega⟩
     rw [show q+1 - i=c+1 by omega] at k3
     obtain⟨x,hx⟩: ∃x,A2.drop c=x::A2.drop (c+1):=⟨A2[c]'(by omega),List.drop_eq_getElem_cons (by omega)⟩
     have hty:A2.take (c+1)=A2.take c++ [x]:=by
      have e:A2[c]'(by omega)=x:=by
       have:=List.drop_eq_getElem_cons (l:=A2) (i:=c) (by omega)
       rw [this] at hx
       exact(List.cons.inj hx).1
      rw [List.take_succ_eq_append_getElem (by omega),e]
     have hP:(L2++A2.take c).length=q:=by rw [List.length_append,List.length_take,hLl];omega
     have eM:M=(L2++A2.take c)++x::y::(A2.drop (c+1)++R):=by rw [k3,hty];simp
     generalize hPP:L2++A2.take c=P at *
     generalize hSS:A2.drop (c+1)++R=S at *
     have g0:(ir ePc M)[q]? =some ((ePc x).map .p):=ir_get' (by rw [eM,←hP];exact at_0 ..)
     have g1:(ir ePc M)[q+1]? =some ((ePc y).map .p):=ir_get' (by rw [eM,←hP];exact at_1 ..)
     have sw:(M.set (q+1) x).set q y=P++y::x::S:=by rw [eM,←hP];exact swap_at' ..
     have g2:(ir ePc (M.set (q+1) x))[q]? =some ((ePc x).map .p):=ir_get' (by
      rw [List.getElem?_set_ne (by omega),eM,←hP];exact at_0 ..)
     have tn:((q:Int)+1).toNat=q+1:=rfl
     have hc':(i:Int) < (q:Int)+1:=by omega
     (try simp (maxSteps:=2000000) (disch:=omega) only [go_sem,simprocAttr,zD,zE,hc'])
     (refine walk_trim [0,14,17] trivial zL ?_;(refine zW ?_;try with_reducible exact True.intro);refine irun_walk (id:=23) (n:=200) [none,none,none,none,none,none,none,none,none,none,none,none,none,none,none,some [2,3,4],none,some []] mixed (by kernel_rfl) ?_)
     (try simp (maxSteps:=2000000) (disch:=omega) only [go_sem,simprocAttr,zD,zE,g0,g1,g2,tn,ePc,Int.add_sub_cancel])
     refine⟨(q,P++y::x::S),⟨by simp only;omega,by simp only;omega,?_⟩,by simp only;omega,?_⟩
     ·simp only
      rw [show q - i=c by omega,hx,←hPP,←hSS];simp
     ·constructor<;>(try simp (maxSteps:=2000000) (disch:=omega) only [go_sem,simprocAttr,zD,zE,sw,hml,Int.add_sub_cancel])
end Go.Proofs.GY
/- Pieces merged in place: the whole. -/
namespace Go.Proofs.GY
open Go Go.Idl Go.Proofs Go.GN
set_option maxHeartbeats 20000000
set_option maxRecDepth 100000
def nodeAt (l:List Pc) (k:Nat):Int:=((l[k]?).map (·.node)).getD 0
theorem nodeAt_get {l:List Pc} {k:Nat} (h:k < l.length):nodeAt l k=l[k].node:=by simp [nodeAt,h]
abbrev symPG (g:Nat) (L A B R:List Pc):Prop:=
  PG Tryz.prog 119 [.ref 0 g 0 (L++A++B++R).length,sci .i64 (L.length:Int),sci .i64 ((L.length+A.length:Nat):Int),sci .i64 ((L.length+A.length+B.length:Nat):Int),cmpF]
   [pB g (L++A++B++R)] 0 (.tup []) [(0,pB g (L++List.merge A B leP++R))]
theorem sym_parts (L A B R:List Pc) (i e mid n:Nat) (l fin:List Pc) (h1:L.length≤i) (h2:i≤L.length+A.length) (h3:L.length+A.length≤e) (h4:e≤L.length+A.length+B.length)
  (h5:e - (L.length+A.length)=mid - i∧i≤mid∧e+i=n∧mid+(L.length+A.length)=n) (uA:Up A) (uB:Up B) (hl:L++A++B++R=l) (hfin:L++List.merge A B leP++R=fin) (hn:l.length < 1000)
  (hle: ∀x∈A.take (i - L.length),∀y∈B.drop (e - (L.length+A.length)),x.node≤y.node) (hlt: ∀x∈A.drop (i - L.length),∀y∈B.take (e - (L.length+A.length)),y.node < x.node)
  {g f:Nat} (recur: ∀(L A B R:List Pc),A.length+B.length≤f→1≤A.length→1≤B.length→Up A→Up B→(L++A++B++R).length < 1000→symPG g L A B R)
  (hf:A.length+B.length≤f+1) (hmd:mid < L.length+A.length+B.length) (hma:L.length < mid):
  ∃l1 l2:List Pc,l1.length=l.length∧l2.length=l.length∧(¬(i < L.length+A.length∧L.length+A.length < e)→l1=l)∧(¬(L.length < i∧i < mid)→l2=l1)∧(¬(mid < e∧e < L.length+A.length+B.length)→fin=l2)∧
   (i < L.length+A.length→L.length+A.length < e→PG Tryz.prog 139 [.ref 0 g 0 l.length,sci .i64 (i:Int),sci .i64 ((L.length+A.length:Nat):Int),sci .i64 (e:Int),cmpF] [pB g l] 0 (.tup []) [(0,pB g l1)])∧
   (∀M,M=l1→L.length < i→i < mid→PG Tryz.prog 119 [.ref 0 g 0 l.length,sci .i64 (L.length:Int),sci .i64 (i:Int),sci .i64 (mid:Int),cmpF] [pB g M] 0 (.tup []) [(0,pB g l2)])∧
   (∀M,M=l2→mid < e→e < L.length+A.length+B.length→PG Tryz.prog 119 [.ref 0 g 0 l.length,sci .i64 (mid:Int),sci .i64 (e:Int),sci .i64 ((L.length+A.length+B.length:Nat):Int),cmpF] [pB g M] 0 (.tup []) [(0,pB g fin)]):=by
 have q1:(A.take (i - L.length)).length=i - L.length:=by rw [List.length_take];omega
 have q2:(A.drop (i - L.length)).length=L.length+A.length - i:=by rw [List.length_drop];omega
 have q3:(B.take (e - (L.length+A.length))).length=e - (L.length+A.length):=by rw [List.length_take];omega
 have q4:(B.drop (e - (L.length+A.length))).length=L.length+A.length+B.length - e:=by rw [List.length_drop];omega
 have eA:A=A.take (i - L.length)++A.drop (i - L.length):=(List.take_append_drop ..).symm
 have eB:B=B.take (e - (L.length+A.length))++B.drop (e - (L.length+A.length)):=(List.take_append_drop ..).symm
 have u1:Up (A.take (i - L.length)):=List.Pairwise.sublist (List.take_sublist ..) uA
 have u2:Up (A.drop (i - L.length)):=List.Pairwise.sublist (List.drop_sublist ..) uA
 have u3:Up (B.take (e - (L.length+A.length))):=List.Pairwise.sublist (List.take_sublist ..) uB
 have u4:Up (B.drop (e - (L.length+A.length))):=List.Pairwise.sublist (List.drop_sublist ..) uB
 generalize hA1:A.take (i - L.length)=A1 at *
 generalize hA2:A.drop (i - L.length)=A2 at *
 generalize hB1:B.take (e - (L.length+A.length))=B1 at *
 generalize hB2:B.drop (e - (L.length+A.length))=B2 at *
 have hms:List.merge A B leP=List.merge A1 B1 leP++List.merge A2 B2 leP:=by
  rw [eA,eB]
  exact merge_split (le:=leP) A1 B1 A2 B2 (fun x hx y hy=>by have:=hle x hx y hy;unfold leP;simpa using this) (fun x hx y hy=>by have:=hlt x hx y hy;unfold leP;simp;omega)
 have el:l=L++A1++A2++B1++(B2++R):=by
  rw [←hl]
  conv=>lhs;rw [eA,eB]
  simp only [List.append_assoc]
 have ll:l.length=L.length+A1.length+A2.length+B1.length+B2.length+R.length:=by rw [el];simp;omega
 have hAl:A.length=A1.length+A2.length:=by rw [eA];simp
 have hBl:B.length=B1.length+B2.length:=by rw [eB];simp
 have len1:(L++A1++B1++A2++(B2++R)).length=l.length:=by rw [ll];simp;omega
 have len2:(L++List.merge A1 B1 leP++A2++B2++R).length=l.length:=by rw [ll];simp;omega
 refine⟨L++A1++B1++A2++(B2++R),L++List.merge A1 B1 leP++A2++B2++R,len1,len2,fun h=>?_,fun h=>?_,fun h=>?_,fun h h'=>?_,fun M hM h h'=>?_,fun M hM h h'=>?_⟩
 ·rw [el]
  rcases Nat.eq_zero_or_pos A2.length with h0 | h0
  ·rw [List.eq_nil_of_length_eq_zero h0];simp
  ·rcases Nat.eq_zero_or_pos B1.length with h0 | h0
   ·rw [List.eq_nil_of_length_eq_zero h0];simp
   ·exact absurd ⟨by omega,by omega⟩ h
 ·rcases Nat.eq_zero_or_pos A1.length with h0 | h0
  ·rw [List.eq_nil_of_length_eq_zero h0];simp
  ·rcases Nat.eq_zero_or_pos B1.length with h0 | h0
   ·rw [List.eq_nil_of_length_eq_zero h0];simp
   ·exact absurd ⟨by omega,by omega⟩ h
 ·rw [←hfin,hms]
  rcases Nat.eq_zero_or_pos A2.length with h0 | h0
  ·rw [List.eq_nil_of_length_eq_zero h0];simp
  ·rcases Nat.eq_zero_or_pos B2.length with h0 | h0
   ·rw [List.eq_nil_of_length_eq_zero h0];simp
   ·exact absurd ⟨by omega,by omega⟩ h
 ·have sp:=rotate_spec g (L++A1) A2 B1 (B2++R) (by omega) (by omega) (by rw [←el];exact hn)
  rw [←el] at sp
  rw [List.length_append,show L.length+A1.length=i by omega,show i+A2.length=L.length+A.length by omega,show L.length+A.length+B1.length=e by omega] at sp
  exact sp
 ·subst hM
  have sp:=recur L A1 B1 (A2++(B2++R)) (by omega) (by omega) (by omega) u1 u3 (by rw [←List.append_assoc,len1];exact hn)
  unfold symPG at sp
  rw [show L++A1++B1++(A2++(B2++R))=L++A1++B1++A2++(B2++R) by simp,len1,show L.length+A1.length=i by omega,show i+B1.length=mid by omega] at sp
  rw [show L++List.merge A1 B1 leP++(A2++(B2++R))=L++List.merge A1 B1 leP++A2++B2++R by simp] at sp
  exact sp
 ·subst hM
  have sp:=recur (L++List.merge A1 B1 leP) A2 B2 R (by omega) (by omega) (by omega) u2 u4 (by rw [len2];exact hn)
  unfold symPG at sp
  rw [len2,List.length_append,List.length_merge,show L.length+(A1.length+B1.length)=mid by omega,show mid+A2.length=e by omega,show e+B2.length=L.length+A.length+B.length by omega] at sp
  rw [show L++List.merge A1 B1 leP++List.merge A2 B2 leP++R=fin by rw [←hfin,hms];simp] at sp
  exact sp
theorem sym_spec (g:Nat): ∀(f:Nat) (L A B R:List Pc),A.length+B.length≤f→1≤A.length→1≤B.length→Up A→Up B→(L++A++B++R).length < 1000→symPG g L A B R:=by
 intro f
 induction f with
 | zero=>intro L A B R hf hA;omega
 | succ f ih=>
   intro L A B R hf hA hB uA uB hn
   by_cases hA1:A.length=1
   ·obtain⟨x,rfl⟩:=List.length_eq_one_iff.1 hA1
    have:=sym_one g L x B R hB uB (by simpa using hn)
    simpa [symPG] using this
   by_cases hB1:B.length=1
   ·obtain⟨y,rfl⟩:=List.length_eq_one_iff.1 hB1
    have:=sym_last g L A y R (by omega) uA (by simpa using hn)
    simpa [symPG] using this
   have recur: ∀(L A B R:List Pc),A.length+B.length≤f→1≤A.length→1≤B.length→Up A→Up B→(L++A++B++R).length < 1000→symPG g L A B R:=ih
   clear ih
   show PG _ _ _ _ _ _ _
   generalize hl:L++A++B++R=l at *
   generalize ha:L.length=a at *
   generalize hm:a+A.length=m at *
   generalize hb:m+B.length=b at *
   have hlen:b≤l.length:=by rw [←hl];simp;omega
   have hKA: ∀i j,a≤i→i≤j→j < m→nodeAt l i≤nodeAt l j:=by
    intro i j h1 h2 h3
    have key: ∀k,a≤k→k < m→nodeAt l k=nodeAt A (k - a):=by
     intro k k1 k2
     unfold nodeAt
     rw [←hl,List.append_assoc,List.append_assoc,List.getElem?_append_right (by omega),List.getElem?_append_left (by omega),ha]
    rw [key i h1 (by omega),key j (by omega) h3,nodeAt_get (by omega),nodeAt_get (by omega)]
    exact up_get uA (by omega) (by omega)
   have hKB: ∀i j,m≤i→i≤j→j < b→nodeAt l i≤nodeAt l j:=by
    intro i j h1 h2 h3
    have key: ∀k,m≤k→k < b→nodeAt l k=nodeAt B (k - m):=by
     intro k k1 k2
     unfold nodeAt
     rw [←hl,List.append_assoc,List.getElem?_append_right (by simp;omega),List.length_append,List.getElem?_append_left (by omega),show k - (L.length+A.length)=k - m by omega]
    rw [key i h1 (by omega),key j (by omega) h3,nodeAt_get (by omega),nodeAt_get (by omega)]
    exact up_get uB (by omega) (by omega)
   have kA: ∀k (hk:k < A.length),nodeAt l (a+k)=A[k].node:=by
    intro k hk
    unfold nodeAt
    rw [←hl,List.append_assoc,List.append_assoc,List.getElem?_append_right (by omega),List.getElem?_append_left (by omega),show a+k - L.length=k by omega,List.getElem?_eq_getElem hk]
    rfl
   have kB: ∀k (hk:k < B.length),nodeAt l (m+k)=B[k].node:=by
    intro k hk
    unfold nodeAt
    rw [←hl,List.append_assoc,List.getElem?_append_right (by simp;omega),List.length_append,List.getElem?_append_left (by omega),show m+k - (L.length+A.length)=k by omega,List.getElem?_eq_getElem hk]
    rfl
   have hmid:=mid_of (i:=a) (j:=b) (by omega)
   obtain⟨mid,hmd⟩: ∃mid,(a+b) / 2=mid:=⟨_,rfl⟩
   rw [hmd] at hmid
   obtain⟨n,hn2⟩: ∃n,mid+m=n:=⟨_,rfl⟩
   generalize hfin:L++List.merge A B leP++R=fin
   refine pg_of 200 (fn:=Tryz.f119) Tryz.func119 rfl (by simp [Tryz.ntmps119]) 1 rfl zC zC zC zC zC fun hs=>?_
   ((try refine zW ?_);(try with_reducible exact True.intro))
   have s1:((m:Int) - (a:Int)==1)=false:=by rw [beq_eq_false_iff_ne];omega
   have s2:((b:Int) - (m:Int)==1)=false:=by rw [beq_eq_false_iff_ne];omega
   have s3:(mid:Int)+(m:Int)=(n:Int):=by omega
   (try simp (maxSteps:=2000000) (disch:=omega) only [go_sem,simprocAttr,zD,zE,s1,s2])
   (try simp (maxSteps:=2000000) (disch:=omega) only [go_sem,simprocAttr,zD,zE,hmid,s3])
   have bounds: ∃st r0:Nat,(st=if mid < m then n - b else a)∧(r0=if mid < m then mid else m)∧a≤st∧st≤r0∧r0≤m∧n≤b+st∧m+r0≤n∧(st=a∨n=b+st)∧(r0=m∨n=m+r0):=by
    refine⟨_,_,rfl,rfl,?_⟩
    split<;>omega
   obtain⟨st,r0,hst,hr0,b1,b2,b3,b4,b5,b6,b7⟩:=bounds
   have s1':(n:Int) - 1=((n - 1:Nat):Int):=by omega
   rcases Nat.lt_or_ge mid m with hmm | hmm
   ·have c1:(mid:Int) < (m:Int):=by omega
    rw [if_pos hmm] at hst hr0
    have s4:(n:Int) - (b:Int)=(st:Int):=by omega
    have hr1:(mid:Int)=(r0:Int):=by omega
    (try simp (maxSteps:=2000000) (disch:=omega) only [go_sem,simprocAttr,zD,zE,c1,s4])
    (refine walk_trim [0,1,2,3,4,18,19,20,21,22] trivial zL ?_;((try refine zW ?_);(try with_reducible exact True.intro)))
    refine walk_loop 200 200 (fun p:Nat × Nat=>(st≤p.1∧p.1≤p.2∧p.2≤r0)∧(∀c,st≤c→c < p.1→nodeAt l c≤nodeAt l (n - 1 - c))∧(∀c,p.2≤c→c < r0→nodeAt l (n - 1 - c) < nodeAt l c))
     (fun p=>⟨220, [(0, .ref 0 g 0 l.length),(1,sci .i64 (a:Int)),(2,sci .i64 (m:Int)),(3,sci .i64 (b:Int)),(4,cmpF),(18,sci .i64 (mid:Int)),(19,sci .i64 (n:Int)),(20,sci .i64 (p.1:Int)),(21,sci .i64 (p.2:Int)),(22,sci .i64 ((n:Int) - 1))], [],1, [(0,pB g l)]⟩) (fun p=>p.2 - p.1) (st,r0) ?_ ?_ ?_
    ·exact⟨⟨Nat.le_refl _,b2,Nat.le_refl _⟩,fun c h1 h2=>by simp only at h2;omega,fun c h1 h2=>by simp only at h1;omega⟩
    ·constructor<;>(try simp (maxSteps:=2000000) (disch:=omega) only [go_sem,simprocAttr,zD,zE,hr1])
    ·rintro⟨i,j⟩ ⟨⟨i1,i2,i3⟩,i4,i5⟩
     simp only at i1 i2 i3 i4 i5
     ((try refine zW ?_);(try with_reducible exact True.intro))
     by_cases hij:i < j
     ·have hij':(i:Int) < (j:Int):=by omega
      (try simp (maxSteps:=2000000) (disch:=omega) only [go_sem,simprocAttr,zD,zE,hij'])
      obtain⟨h,hmh,h1,h2⟩: ∃h:Nat,IntKind.i64.wrap ((IntKind.u64.wrap ((i:Int)+(j:Int))).fdiv (2 ^ min 1 64))=(h:Int)∧i≤h∧h < j:=⟨(i+j) / 2,mid_of (by omega),by omega,by omega⟩
      obtain⟨q,hq⟩: ∃q,n - 1 - h=q:=⟨_,rfl⟩
      have hq2:(n:Int) - 1 - (h:Int)=(q:Int):=by omega
      have hhl:h < l.length:=by omega
      have hql:q < l.length:=by omega
      have gh:(ir ePc l)[h]? =some ((ePc l[h]).map .p):=ir_get' (List.getElem?_eq_getElem hhl)
      have gq:(ir ePc l)[q]? =some ((ePc l[q]).map .p):=ir_get' (List.getElem?_eq_getElem hql)
      have nh:nodeAt l h=l[h].node:=nodeAt_get hhl
      have nq:nodeAt l (n - 1 - h)=l[q].node:=by rw [hq];exact nodeAt_get hql
      generalize l[h]=wh at *
      generalize l[q]=wq at *
      (try simp (maxSteps:=2000000) (disch:=omega) only [go_sem,simprocAttr,zD,zE,hmh])
      (refine walk_trim [0,1,2,3,4,18,19,20,21,22,23] trivial zL ?_;(refine zW ?_;try with_reducible exact True.intro);refine irun_walk (id:=35) (n:=200) [none,none,none,none,none,none,none,none,none,none,none,some [],none,none] mixed (by kernel_rfl) ?_)
      (try simp (maxSteps:=2000000) (disch:=omega) only [go_sem,simprocAttr,zD,zE,hq2,gh,gq,ePc])
      (refine at_dcall ?_;(refine zW ?_;try with_reducible exact True.intro);refine callA_of (cmpP_spec wq wh) zB ?_;((try refine zW ?_);(try with_reducible exact True.intro)))
      ((try refine zO ?_);(try with_reducible exact True.intro))
      by_cases hc:wq.node < wh.node
      ·have hc3:decide (cmpI wq.node wh.node < 0)=true:=by rw [cmp_lt];unfold ltP;simpa using hc
       (try simp (maxSteps:=2000000) (disch:=omega) only [go_sem,simprocAttr,zD,zE,hc3])
       refine⟨(i,h),⟨⟨i1,h1,by simp only;omega⟩,i4,fun c k1 k2=>?_⟩,by simp only;omega,?_⟩
       ·simp only at k1
        have e1:=hKA h c (by omega) k1 (by omega)
        have e2:=hKB (n - 1 - c) (n - 1 - h) (by omega) (by omega) (by omega)
        omega
       ·constructor<;>((try refine zO ?_);(try with_reducible exact True.intro))
      ·have hc3:decide (cmpI wq.node wh.node < 0)=false:=by rw [cmp_lt];unfold ltP;simpa using hc
       (try simp (maxSteps:=2000000) (disch:=omega) only [go_sem,simprocAttr,zD,zE,hc3])
       refine⟨(h+1,j),⟨⟨by simp only;omega,by simp only;omega,i3⟩,fun c k1 k2=>?_,i5⟩,by simp only;omega,?_⟩
       ·simp only at k2
        have e1:=hKA c h (by omega) (by omega) (by omega)
        have e2:=hKB (n - 1 - h) (n - 1 - c) (by omega) (by omega) (by omega)
        omega
       ·constructor<;>((try refine zO ?_);(try with_reducible exact True.intro))
     ·have hij2:i=j:=by omega
      subst hij2
      obtain⟨e,he⟩: ∃e,n - i=e:=⟨_,rfl⟩
      have ei:(n:Int) - (i:Int)=(e:Int):=by omega
      have parts:=sym_parts L A B R i e mid n l fin (by omega) (by omega) (by omega) (by omega) (by omega) uA uB hl hfin hn (by
       intro x hx y hy
       obtain⟨p,hp,rfl⟩:=List.getElem_of_mem hx
       obtain⟨q,hq,rfl⟩:=List.getElem_of_mem hy
       rw [List.getElem_take,List.getElem_drop]
       rw [List.length_take] at hp
       rw [List.length_drop] at hq
       rw [←kA p (by omega),←kB _ (by omega)]
       have e1:=hKA (a+p) (i - 1) (by omega) (by omega) (by omega)
       have e2:=i4 (i - 1) (by omega) (by omega)
       have e3:=hKB e (m+(e - (L.length+A.length)+q)) (by omega) (by omega) (by omega)
       rw [show n - 1 - (i - 1)=e by omega] at e2
       omega) (by
       intro x hx y hy
       obtain⟨p,hp,rfl⟩:=List.getElem_of_mem hx
       obtain⟨q,hq,rfl⟩:=List.getElem_of_mem hy
       rw [List.getElem_take,List.getElem_drop]
       rw [List.length_drop] at hp
       rw [List.length_take] at hq
       rw [←kB q (by omega),←kA _ (by omega)]
       have e1:=hKA i (a+(i - L.length+p)) (by omega) (by omega) (by omega)
       have e2:=i5 i (by omega) (by omega)
       have e3:=hKB (m+q) (n - 1 - i) (by omega) (by omega) (by omega)
       omega) recur hf (by omega) (by omega)
      simp only [ha,hm,hb] at parts
      obtain⟨l1,l2,n1,n2,f1,f2,f3,rot,sy1,sy2⟩:=parts
      have z1:(i:Int) < (m:Int)↔(mid:Int) < (e:Int):=by omega
      have z2:(m:Int) < (e:Int)↔(i:Int) < (mid:Int):=by omega
      clear hKA hKB kA kB i4 i5 hl hfin recur
      by_cases p2:i < m<;>by_cases p3:m < e<;>by_cases p1:a < i<;>by_cases p4:e < b
      all_goals first
       | omega
       | skip
      all_goals
       have d2:decide ((i:Int) < (m:Int))=decide (i < m):=decide_eq_decide.2 (by omega)
       have d2':decide ((mid:Int) < (e:Int))=decide (i < m):=decide_eq_decide.2 (by omega)
       have d3:decide ((m:Int) < (e:Int))=decide (m < e):=decide_eq_decide.2 (by omega)
       have d3':decide ((i:Int) < (mid:Int))=decide (m < e):=decide_eq_decide.2 (by omega)
       have d1:decide ((a:Int) < (i:Int))=decide (a < i):=decide_eq_decide.2 (by omega)
       have d4:decide ((e:Int) < (b:Int))=decide (e < b):=decide_eq_decide.2 (by omega)
       (try(have e1:=f1 (by omega);subst e1))
       (try(have e2:=f2 (by omega);subst e2))
       (try(have e3:=f3 (by omega);subst e3))
       simp only [p1,p2,p3,p4,decide_true,decide_false] at d1 d2 d2' d3 d3' d4
       (try simp (maxSteps:=2000000) (disch:=omega) only [go_sem,simprocAttr,zD,zE,ei,d1,d2,d2',d3,d3',d4])
       (try((refine at_g 200 ?_;(refine zW ?_;try with_reducible exact True.intro);refine callG_of [0] (rot (by omega) (by omega)) (by simp (maxSteps:=2000000) (disch:=omega) only [go_sem,simprocAttr,zD,zE,cmpF]) ?_;((try refine zW ?_);(try with_reducible exact True.intro)));try(try simp (maxSteps:=2000000) (disch:=omega) only [go_sem,simprocAttr,zD,zE,ei,d1,d2,d2',d3,d3',d4])))
       (try((refine at_g 200 ?_;(refine zW ?_;try with_reducible exact True.intro);refine callG_of [0] (sy1 _ rfl (by omega) (by omega)) (by simp (maxSteps:=2000000) (disch:=omega) only [go_sem,simprocAttr,zD,zE,cmpF]) ?_;((try refine zW ?_);(try with_reducible exact True.intro)));try(try simp (maxSteps:=2000000) (disch:=omega) only [go_sem,simprocAttr,zD,zE,ei,d1,d2,d2',d3,d3',d4])))
       (try((refine at_g 200 ?_;(refine zW ?_;try with_reducible exact True.intro);refine callG_of [0] (sy2 _ rfl (by omega) (by omega)) (by simp (maxSteps:=2000000) (disch:=omega) only [go_sem,simprocAttr,zD,zE,cmpF]) ?_;((try refine zW ?_);(try with_reducible exact True.intro)));try(try simp (maxSteps:=2000000) (disch:=omega) only [go_sem,simprocAttr,zD,zE,ei,d1,d2,d2',d3,d3',d4])))
   ·have c1: ¬(mid:Int) < (m:Int):=by omega
    rw [if_neg (by omega)] at hst hr0
    have s4:(a:Int)=(st:Int):=by omega
    have hr1:(m:Int)=(r0:Int):=by omega
    (try simp (maxSteps:=2000000) (disch:=omega) only [go_sem,simprocAttr,zD,zE,c1])
    (refine walk_trim [0,1,2,3,4,18,19,20,21,22] trivial zL ?_;((try refine zW ?_);(try with_reducible exact True.intro)))
    refine walk_loop 200 200 (fun p:Nat × Nat=>(st≤p.1∧p.1≤p.2∧p.2≤r0)∧(∀c,st≤c→c < p.1→nodeAt l c≤nodeAt l (n - 1 - c))∧(∀c,p.2≤c→c < r0→nodeAt l (n - 1 - c) < nodeAt l c))
     (fun p=>⟨220, [(0, .ref 0 g 0 l.length),(1,sci .i64 (a:Int)),(2,sci .i64 (m:Int)),(3,sci .i64 (b:Int)),(4,cmpF),(18,sci .i64 (mid:Int)),(19,sci .i64 (n:Int)),(20,sci .i64 (p.1:Int)),(21,sci .i64 (p.2:Int)),(22,sci .i64 ((n:Int) - 1))], [],1, [(0,pB g l)]⟩) (fun p=>p.2 - p.1) (st,r0) ?_ ?_ ?_
    ·exact⟨⟨Nat.le_refl _,b2,Nat.le_refl _⟩,fun c h1 h2=>by simp only at h2;omega,fun c h1 h2=>by simp only at h1;omega⟩
    ·constructor<;>(try simp (maxSteps:=2000000) (disch:=omega) only [go_sem,simprocAttr,zD,zE,s4,hr1])
    ·rintro⟨i,j⟩ ⟨⟨i1,i2,i3⟩,i4,i5⟩
     simp only at i1 i2 i3 i4 i5
     ((try refine zW ?_);(try with_reducible exact True.intro))
     by_cases hij:i < j
     ·have hij':(i:Int) < (j:Int):=by omega
      (try simp (maxSteps:=2000000) (disch:=omega) only [go_sem,simprocAttr,zD,zE,hij'])
      obtain⟨h,hmh,h1,h2⟩: ∃h:Nat,IntKind.i64.wrap ((IntKind.u64.wrap ((i:Int)+(j:Int))).fdiv (2 ^ min 1 64))=(h:Int)∧i≤h∧h < j:=⟨(i+j) / 2,mid_of (by omega),by omega,by omega⟩
      obtain⟨q,hq⟩: ∃q,n - 1 - h=q:=⟨_,rfl⟩
      have hq2:(n:Int) - 1 - (h:Int)=(q:Int):=by omega
      have hhl:h < l.length:=by omega
      have hql:q < l.length:=by omega
      have gh:(ir ePc l)[h]? =some ((ePc l[h]).map .p):=ir_get' (List.getElem?_eq_getElem hhl)
      have gq:(ir ePc l)[q]? =some ((ePc l[q]).map .p):=ir_get' (List.getElem?_eq_getElem hql)
      have nh:nodeAt l h=l[h].node:=nodeAt_get hhl
      have nq:nodeAt l (n - 1 - h)=l[q].node:=by rw [hq];exact nodeAt_get hql
      generalize l[h]=wh at *
      generalize l[q]=wq at *
      (try simp (maxSteps:=2000000) (disch:=omega) only [go_sem,simprocAttr,zD,zE,hmh])
      (refine walk_trim [0,1,2,3,4,18,19,20,21,22,23] trivial zL ?_;(refine zW ?_;try with_reducible exact True.intro);refine irun_walk (id:=35) (n:=200) [none,none,none,none,none,none,none,none,none,none,none,some [],none,none] mixed (by kernel_rfl) ?_)
      (try simp (maxSteps:=2000000) (disch:=omega) only [go_sem,simprocAttr,zD,zE,hq2,gh,gq,ePc])
      (refine at_dcall ?_;(refine zW ?_;try with_reducible exact True.intro);refine callA_of (cmpP_spec wq wh) zB ?_;((try refine zW ?_);(try with_reducible exact True.intro)))
      ((try refine zO ?_);(try with_reducible exact True.intro))
      by_cases hc:wq.node < wh.node
      ·have hc3:decide (cmpI wq.node wh.node < 0)=true:=by rw [cmp_lt];unfold ltP;simpa using hc
       (try simp (maxSteps:=2000000) (disch:=omega) only [go_sem,simprocAttr,zD,zE,hc3])
       refine⟨(i,h),⟨⟨i1,h1,by simp only;omega⟩,i4,fun c k1 k2=>?_⟩,by simp only;omega,?_⟩
       ·simp only at k1
        have e1:=hKA h c (by omega) k1 (by omega)
        have e2:=hKB (n - 1 - c) (n - 1 - h) (by omega) (by omega) (by omega)
        omega
       ·constructor<;>((try refine zO ?_);(try with_reducible exact True.intro))
      ·have hc3:decide (cmpI wq.node wh.node < 0)=false:=by rw [cmp_lt];unfold ltP;simpa using hc
       (try simp (maxSteps:=2000000) (disch:=omega) only [go_sem,simprocAttr,zD,zE,hc3])
       refine⟨(h+1,j),⟨⟨by simp only;omega,by simp only;omega,i3⟩,fun c k1 k2=>?_,i5⟩,by simp only;omega,?_⟩
       ·simp only at k2
        have e1:=hKA c h (by omega) (by omega) (by omega)
        have e2:=hKB (n - 1 - h) (n - 1 - c) (by omega) (by omega) (by omega)
        omega
       ·constructor<;>((try refine zO ?_);(try with_reducible exact True.intro))
     ·have hij2:i=j:=by omega
      subst hij2
      obtain⟨e,he⟩: ∃e,n - i=e:=⟨_,rfl⟩
      have ei:(n:Int) - (i:Int)=(e:Int):=by omega
      have parts:=sym_parts L A B R i e mid n l fin (by omega) (by omega) (by omega) (by omega) (by omega) uA uB hl hfin hn (by
       intro x hx y hy
       obtain⟨p,hp,rfl⟩:=List.getElem_of_mem hx
       obtain⟨q,hq,rfl⟩:=List.getElem_of_mem hy
       rw [List.getElem_take,List.getElem_drop]
       rw [List.length_take] at hp
       rw [List.length_drop] at hq
       rw [←kA p (by omega),←kB _ (by omega)]
       have e1:=hKA (a+p) (i - 1) (by omega) (by omega) (by omega)
       have e2:=i4 (i - 1) (by omega) (by omega)
       have e3:=hKB e (m+(e - (L.length+A.length)+q)) (by omega) (by omega) (by omega)
       rw [show n - 1 - (i - 1)=e by omega] at e2
       omega) (by
       intro x hx y hy
       obtain⟨p,hp,rfl⟩:=List.getElem_of_mem hx
       obtain⟨q,hq,rfl⟩:=List.getElem_of_mem hy
       rw [List.getElem_take,List.getElem_drop]
       rw [List.length_drop] at hp
       rw [List.length_take] at hq
       rw [←kB q (by omega),←kA _ (by omega)]
       have e1:=hKA i (a+(i - L.length+p)) (by omega) (by omega) (by omega)
       have e2:=i5 i (by omega) (by omega)
       have e3:=hKB (m+q) (n - 1 - i) (by omega) (by omega) (by omega)
       omega) recur hf (by omega) (by omega)
      simp only [ha,hm,hb] at parts
      obtain⟨l1,l2,n1,n2,f1,f2,f3,rot,sy1,sy2⟩:=parts
      have z1:(i:Int) < (m:Int)↔(mid:Int) < (e:Int):=by omega
      have z2:(m:Int) < (e:Int)↔(i:Int) < (mid:Int):=by omega
      clear hKA hKB kA kB i4 i5 hl hfin recur
      by_cases p2:i < m<;>by_cases p3:m < e<;>by_cases p1:a < i<;>by_cases p4:e < b
      all_goals first
       | omega
       | skip
      all_goals
       have d2:decide ((i:Int) < (m:Int))=decide (i < m):=decide_eq_decide.2 (by omega)
       have d2':decide ((mid:Int) < (e:Int))=decide (i < m):=decide_eq_decide.2 (by omega)
       have d3:decide ((m:Int) < (e:Int))=decide (m < e):=decide_eq_decide.2 (by omega)
       have d3':decide ((i:Int) < (mid:Int))=decide (m < e):=decide_eq_decide.2 (by omega)
       have d1:decide ((a:Int) < (i:Int))=decide (a < i):=decide_eq_decide.2 (by omega)
       have d4:decide ((e:Int) < (b:Int))=decide (e < b):=decide_eq_decide.2 (by omega)
       (try(have e1:=f1 (by omega);subst e1))
       (try(have e2:=f2 (by omega);subst e2))
       (try(have e3:=f3 (by omega);subst e3))
       simp only [p1,p2,p3,p4,decide_true,decide_false] at d1 d2 d2' d3 d3' d4
       (try simp (maxSteps:=2000000) (disch:=omega) only [go_sem,simprocAttr,zD,zE,ei,d1,d2,d2',d3,d3',d4])
       (try((refine at_g 200 ?_;(refine zW ?_;try with_reducible exact True.intro);refine callG_of [0] (rot (by omega) (by omega)) (by simp (maxSteps:=2000000) (disch:=omega) only [go_sem,simprocAttr,zD,zE,cmpF]) ?_;((try refine zW ?_);(try with_reducible exact True.intro)));try(try simp (maxSteps:=2000000) (disch:=omega) only [go_sem,simprocAttr,zD,zE,ei,d1,d2,d2',d3,d3',d4])))
       (try((refine at_g 200 ?_;(refine zW ?_;try with_reducible exact True.intro);refine callG_of [0] (sy1 _ rfl (by omega) (by omega)) (by simp (maxSteps:=2000000) (disch:=omega) only [go_sem,simprocAttr,zD,zE,cmpF]) ?_;((try refine zW ?_);(try with_reducible exact True.intro)));try(try simp (maxSteps:=2000000) (disch:=omega) only [go_sem,simprocAttr,zD,zE,ei,d1,d2,d2',d3,d3',d4])))
       (try((refine at_g 200 ?_;(refine zW ?_;try with_reducible exact True.intro);refine callG_of [0] (sy2 _ rfl (by omega) (by omega)) (by simp (maxSteps:=2000000) (disch:=omega) only [go_sem,simprocAttr,zD,zE,cmpF]) ?_;((try refine zW ?_);(try with_reducible exact True.intro)));try(try simp (maxSteps:=2000000) (disch:=omega) only [go_sem,simprocAttr,zD,zE,ei,d1,d2,d2',d3,d3',d4])))
end Go.Proofs.GY
