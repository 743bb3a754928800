/- Facts that the proofs of this claim lean on. -/
import Derived.Test.YteebghpjgcacmaaGreatYWb
import Derived.Test.YteebghpjgcacmaaGreatIdCn
import Derived.Test.YteebghpjgcacmaaGreatYMc
import Derived.Test.YteebghpjgcacmaaGreatIdGr
set_option linter.unusedSimpArgs false
set_option linter.unusedVariables false
/- What is built of pieces that are not whole. -/
namespace Go.Proofs.GY
open Go Go.Idl Go.Proofs Go.GP
set_option maxHeartbeats 20000000
set_option maxRecDepth 100000
def gch:List PanicEntry:= [{v:= .iface 128 (.agg #[]),recovered:=false}]
theorem qfo:Pure Tryz.prog 64 [scb true] (.tup []):=by
 refine qaf 200 (fn:=Tryz.f64) Tryz.func64 rfl (by simp [Tryz.ntmps64]) zB zB fun hs=>?_
 ((try refine zW ?_);(try with_reducible exact True.intro))
theorem qei:PX Tryz.prog 64 [scb false] [] gch (fun W=>W= []):=by
 refine px_of 200 (fn:=Tryz.f64) Tryz.func64 rfl (by simp [Tryz.ntmps64]) 0 rfl zC zC fun hs=>?_
 try refine zW ?_
 refine qoL rfl rfl ?_
 (refine endX_of [] ?_ ?_ ?_ ?_ ?_<;>first | exact rfl | decide | omega | exact zU)
theorem tzvG:tzv Tryz.prog 128=some (.agg ⟨[]⟩):=by kernel_rfl
abbrev zCf:IV:= .agg [lI [], .p (.imm 1 []),lI []]
theorem qjX (s:Sc) (l:List Pc) (logs:Bool) (hl:s.ls.length≤1000000) (hT:qcq s.T) (hg: ∀p∈l,gPc p) (hw: ¬qcJ s.N s.ls s.T l):Pure Tryz.prog 21 [lApp s,lPs l,scb logs] (.tup [zCf,sci .i64 4]):=by
 have e:=qah hw
 obtain⟨N,ls,T,ff,room,acts⟩:=s
 simp only at hl hT e
 refine qk0 200 (fn:=Tryz.f21) Tryz.func21 rfl (by simp [Tryz.ntmps21]) zB zB fun hs=>?_
 try refine zW ?_
 refine qki 200 (x:=⟨.func 63, [.ptr 1 0 0 0, .ptr 2 0 0 0], []⟩) rfl rfl rfl ?_
 try refine zW ?_
 (refine qac 200 ?_;refine zW ?_;refine callA_of (qhy ⟨N,ls,T,ff,room,acts⟩ l hl hT hg) zB ?_;((try refine zW ?_);(try with_reducible exact True.intro)))
 (try simp (maxSteps:=2000000) (disch:=omega) only [go_sem,simprocAttr,zD,zE,e])
 (refine at_x ?_;refine zW ?_;refine qc0 [] (qei) zU ?_)
 rintro W rfl
 try refine zO ?_
 unfold gch
 refine leaves_rec 200 rfl Tryz.func63 rfl (by simp [Tryz.ntmps63]) rfl ?_
 (try simp (maxSteps:=2000000) only [go_sem,simprocAttr,tzvG])
 refine qdU ?_ ?_ ?_<;>((try refine zO ?_);(try with_reducible exact True.intro))
theorem qiB {n:Int}: ∀ {ls:List (Int × Int)} {i j:Nat} (hj:j < ls.length),ls[j].2=n→((i+j:Nat):Int)∈ins n i ls
 | x::r,i,0,_,e=>by
   have e:x.2=n:=e
   unfold ins
   rw [if_pos e]
   exact List.mem_cons_self ..
 | x::r,i,j+1,hj,e=>by
   have:=qiB (ls:=r) (i:=i+1) (j:=j) (by simpa using hj) (by simpa using e)
   unfold ins
   rw [show i+(j+1)=i+1+j by omega]
   split
   ·exact List.mem_cons_of_mem _ this
   ·exact this
theorem indexL_at' (a:Int): ∀(l:List Int) (i:Nat),qaF a i l= -1∨ ∃j:Nat,qaF a i l=((i+j:Nat):Int)∧j < l.length∧l[j]? =some a
 | [],i=> .inl rfl
 | x::r,i=>by
   unfold qaF
   split
   ·rename_i e;exact .inr ⟨0,rfl,by simp,by simp [e]⟩
   ·rcases indexL_at' a r (i+1) with e | ⟨j,e,hj,h⟩
    ·exact .inl e
    ·exact .inr ⟨j+1,by rw [e];congr 1;omega,by simpa using hj,by simpa using h⟩
theorem qdC {a:Int} {l:List Int} (h:a∈l): ∃j:Nat,qaF a 0 l=(j:Int)∧j < l.length∧l[j]? =some a:=by
 have h0:=qdR (i:=0).2 h
 rcases indexL_at' a l 0 with e | ⟨j,e,h2⟩
 ·omega
 ·exact⟨j,by rw [e,Nat.zero_add],h2⟩
def zPc:Pc:=⟨0,0,0, [], [], []⟩
def lkA (ls:List (Int × Int)) (i:Nat):Int × Int:=(ls[i]?).getD (0,0)
def lkP (ls:List (Int × Int)) (l:List Pc) (i:Nat):Pc:=(l[(lkA ls i).1.toNat]?).getD zPc
def lkQ (ls:List (Int × Int)) (l:List Pc) (i:Nat):Pc:=(l[(lkA ls i).2.toNat]?).getD zPc
def lkO (ls:List (Int × Int)) (i:Nat):Nat:=(qaF (i:Int) 0 (outs (lkA ls i).1 0 ls)).toNat
def lkJ (ls:List (Int × Int)) (i:Nat):Nat:=(qaF (i:Int) 0 (ins (lkA ls i).2 0 ls)).toNat
def lkE (ls:List (Int × Int)) (l:List Pc) (i:Nat):Int:=((lkP ls l i).sent[lkO ls i]?).getD 0
def lkS (ls:List (Int × Int)) (l:List Pc) (i:Nat):List Int:=((lkP ls l i).out[lkO ls i]?).getD []
def lkG (ls:List (Int × Int)) (l:List Pc) (i:Nat):List (Int × Int):=((lkQ ls l i).inn[lkJ ls i]?).getD []
def LkOk (ls:List (Int × Int)) (l:List Pc) (i:Nat):Prop:=lkO ls i < (lkP ls l i).out.length∧((lkS ls l i).length:Int)=lkE ls l i∧ ¬MixP (lkS ls l i) (lkG ls l i)
def lkM (ls:List (Int × Int)) (l:List Pc) (logs:Bool) (i:Nat):List (Int × Int):=if logs then qbz (lkS ls l i) (lkG ls l i) else lkG ls l i
structure LkF (ls:List (Int × Int)) (l:List Pc) (i a b o j:Nat) (p q:Pc):Prop where
 hx:ls[i]? =some ((a:Int),(b:Int))
 ha:l[a]? =some p
 hb:l[b]? =some q
 hp:p.node=a
 hq:q.node=b
 ho:qaF (i:Int) 0 (outs (a:Int) 0 ls)=(o:Int)
 hol:o < p.sent.length
 hj:qaF (i:Int) 0 (ins (b:Int) 0 ls)=(j:Int)
 hjl:j < q.inn.length
 hoo:(outs (a:Int) 0 ls)[o]? =some (i:Int)
 hjj:(ins (b:Int) 0 ls)[j]? =some (i:Int)
 hP:qcp p
 hQ:qcp q
theorem link_f {N:Int} {ls:List (Int × Int)} {T:List Nd} {l:List Pc} (hW:qcJ N ls T l) {i:Nat} (hi:i < ls.length): ∃a b o j p q,LkF ls l i a b o j p q:=by
 obtain⟨hT,hN,hl⟩:=hW
 obtain⟨⟨h1,h2,h3,h4,h5⟩, -, -⟩:=hT
 have hx:=List.getElem?_eq_getElem hi
 obtain⟨⟨x1,x2⟩,⟨x3,x4⟩, -, -, -⟩:=h4 i _ hx
 obtain⟨a,ea⟩:=Int.eq_ofNat_of_zero_le x1
 obtain⟨b,eb⟩:=Int.eq_ofNat_of_zero_le x3
 have la:a < l.length:=by omega
 have lb:b < l.length:=by omega
 obtain⟨p1,p2,p3,p4,p5⟩:=hl a _ (List.getElem?_eq_getElem la)
 obtain⟨q1,q2,q3,q4,q5⟩:=hl b _ (List.getElem?_eq_getElem lb)
 have m1:=qdp (i:=0) hi ea
 have m2:=qiB (i:=0) hi eb
 rw [Nat.zero_add] at m1 m2
 obtain⟨o,o1,o2,o3⟩:=qdC m1
 obtain⟨j,j1,j2,j3⟩:=qdC m2
 exact⟨a,b,o,j,_,_,by rw [hx];exact congrArg some (Prod.ext ea eb),List.getElem?_eq_getElem la,List.getElem?_eq_getElem lb,p1,q1,o1,by omega,j1,by omega,o3,j3,p2,q2⟩
theorem LkF.A {ls:List (Int × Int)} {l:List Pc} {i a b o j:Nat} {p q:Pc} (h:LkF ls l i a b o j p q):lkA ls i=((a:Int),(b:Int)):=by rw [lkA,h.hx];rfl
theorem LkF.P {ls:List (Int × Int)} {l:List Pc} {i a b o j:Nat} {p q:Pc} (h:LkF ls l i a b o j p q):lkP ls l i=p:=by rw [lkP,h.A,Int.toNat_natCast,h.ha];rfl
theorem LkF.Q {ls:List (Int × Int)} {l:List Pc} {i a b o j:Nat} {p q:Pc} (h:LkF ls l i a b o j p q):lkQ ls l i=q:=by rw [lkQ,h.A,Int.toNat_natCast,h.hb];rfl
theorem LkF.O {ls:List (Int × Int)} {l:List Pc} {i a b o j:Nat} {p q:Pc} (h:LkF ls l i a b o j p q):lkO ls i=o:=by rw [lkO,h.A,h.ho,Int.toNat_natCast]
theorem LkF.J {ls:List (Int × Int)} {l:List Pc} {i a b o j:Nat} {p q:Pc} (h:LkF ls l i a b o j p q):lkJ ls i=j:=by rw [lkJ,h.A,h.hj,Int.toNat_natCast]
theorem LkF.E {ls:List (Int × Int)} {l:List Pc} {i a b o j:Nat} {p q:Pc} (h:LkF ls l i a b o j p q):lkE ls l i=p.sent[o]'h.hol:=by rw [lkE,h.P,h.O,List.getElem?_eq_getElem h.hol];rfl
theorem LkF.G {ls:List (Int × Int)} {l:List Pc} {i a b o j:Nat} {p q:Pc} (h:LkF ls l i a b o j p q):lkG ls l i=q.inn[j]'h.hjl:=by rw [lkG,h.Q,h.J,List.getElem?_eq_getElem h.hjl];rfl
theorem LkF.S {ls:List (Int × Int)} {l:List Pc} {i a b o j:Nat} {p q:Pc} (h:LkF ls l i a b o j p q) (hl:o < p.out.length):lkS ls l i=p.out[o]:=by rw [lkS,h.P,h.O,List.getElem?_eq_getElem hl];rfl
theorem qlT (s:Sc) (l:List Pc) (i a b o j:Nat) (p q:Pc) (hl:s.ls.length≤1000000) (h:LkF s.ls l i a b o j p q) (hg: ∀p∈l,gPc p):
  Pure Tryz.prog 66 [lApp s,lPs l,sci .i64 i,scb false] (.tup [sci .i64 (lkE s.ls l i),lII (lkM s.ls l false i)]):=by
 have hE:=h.E
 have hG:lkM s.ls l false i=_:=h.G
 obtain⟨N,ls,T,ff,room,acts⟩:=s
 simp only at hl h hE hG
 obtain⟨hx,ha,hb,hp,hq,ho,hol,hj,hjl,hoo,hjj,hP,hQ⟩:=h
 have li:i < ls.length:=by have:=qab hx;exact this
 have la:a < l.length:=qab ha
 have lb:b < l.length:=qab hb
 have gq:=hg _ (List.mem_of_getElem? hb)
 rw [List.getElem?_eq_getElem li] at hx
 rw [List.getElem?_eq_getElem la] at ha
 rw [List.getElem?_eq_getElem lb] at hb
 have hx:=Option.some.inj hx
 have ha:=Option.some.inj ha
 have hb:=Option.some.inj hb
 obtain⟨pn,ps,pt,pse,pi,po⟩:=p
 obtain⟨qn,qs,qt,qse,qi,qo⟩:=q
 simp only at hp hq hol hjl hE hG
 subst hp hq
 rw [hE,hG]
 have hlen:qi[j].length≤1000000:=gq.inns _ (List.getElem_mem hjl)
 refine qaf 200 (fn:=Tryz.f66) Tryz.func66 rfl (by simp [Tryz.ntmps66]) zB zB fun hs=>?_
 try refine zW ?_
 (refine walk_trim [1,2,3,4] trivial zL ?_;refine zW ?_;refine irun_walk (id:=1) (n:=200) [none,none,none,none,none,none,none,none,none,none,none,none,none,none,none,none,none,none,none,none,some [0,1,2,3,4,5,6,7,8,9,10,11,12,13,14,15,16,17,18,19,21],some [0,1,2,3,4,5,6,7,8,9,10,11,12,13,14,15,16,17,18,19,20],some [10,11,12,13,14,15,16,17,18,19],some []] qap (by kernel_rfl) ?_)
 (try simp (maxSteps:=2000000) (disch:=omega) only [go_sem,simprocAttr,zD,zE,eII,hx,ePc,ha,hb])
 (refine walk_trim [2,3,4,10,11] trivial zL ?_;refine zW ?_;refine irun_walk (id:=2) (n:=200) [none,none,none,none,some [5,7,8,9,10,12],none,some [7,8,9,10,12],none,none,none,none,some [12],none,some [],none,none] qap (by kernel_rfl) ?_)
 try refine zO ?_
 (refine at_dcall ?_;refine zW ?_;refine callA_of (qbZ N a ls hl) zB ?_;((try refine zW ?_);(try with_reducible exact True.intro)))
 try refine zO ?_
 (refine at_dcall ?_;refine zW ?_;refine callA_of (qbq _ _) zB ?_;((try refine zW ?_);(try with_reducible exact True.intro)))
 (try simp (maxSteps:=2000000) (disch:=omega) only [go_sem,simprocAttr,zD,zE,ho])
 (refine at_dcall ?_;refine zW ?_;refine callA_of (qcX N b ls hl) zB ?_;((try refine zW ?_);(try with_reducible exact True.intro)))
 try refine zO ?_
 (refine at_dcall ?_;refine zW ?_;refine callA_of (qbq _ _) zB ?_;((try refine zW ?_);(try with_reducible exact True.intro)))
 (try simp (maxSteps:=2000000) (disch:=omega) only [go_sem,simprocAttr,zD,zE,hj])
 (refine walk_trim [10,11,12,13] trivial zL ?_;refine zW ?_;refine irun_walk (id:=4) (n:=200) [none,none,none,none,none,none,none,none,none,none,some [0,1,2,3,4],none,none] qap (by kernel_rfl) ?_)
 (try simp (maxSteps:=2000000) (disch:=omega) only [go_sem,simprocAttr,zD,zE,eI,eMs])
 (refine at_dcall ?_;refine zW ?_;refine callA_of (qdv _ hlen) zB ?_;((try refine zW ?_);(try with_reducible exact True.intro)))
 ((try refine zO ?_);(try with_reducible exact True.intro))
theorem qkL (s:Sc) (l:List Pc) (i a b o j:Nat) (p q:Pc) (hl:s.ls.length≤1000000) (h:LkF s.ls l i a b o j p q) (hg: ∀p∈l,gPc p) (hk:LkOk s.ls l i):
  Pure Tryz.prog 66 [lApp s,lPs l,sci .i64 i,scb true] (.tup [sci .i64 (lkE s.ls l i),lII (lkM s.ls l true i)]):=by
 have hE:=h.E
 have hG:=h.G
 obtain⟨k1,k2,k3⟩:=hk
 rw [h.P,h.O] at k1
 have hS:=h.S k1
 have hM:lkM s.ls l true i=qbz (lkS s.ls l i) (lkG s.ls l i):=rfl
 rw [hM]
 rw [hS] at k2 k3 ⊢
 rw [hG] at k3 ⊢
 rw [hE] at k2 ⊢
 clear hM hS hG hE
 obtain⟨N,ls,T,ff,room,acts⟩:=s
 simp only at hl h
 obtain⟨hx,ha,hb,hp,hq,ho,hol,hj,hjl,hoo,hjj,hP,hQ⟩:=h
 have li:i < ls.length:=by have:=qab hx;exact this
 have la:a < l.length:=qab ha
 have lb:b < l.length:=qab hb
 have gp:=hg _ (List.mem_of_getElem? ha)
 have gq:=hg _ (List.mem_of_getElem? hb)
 rw [List.getElem?_eq_getElem li] at hx
 rw [List.getElem?_eq_getElem la] at ha
 rw [List.getElem?_eq_getElem lb] at hb
 have hx:=Option.some.inj hx
 have ha:=Option.some.inj ha
 have hb:=Option.some.inj hb
 obtain⟨pn,ps,pt,pse,pi,po⟩:=p
 obtain⟨qn,qs,qt,qse,qi,qo⟩:=q
 simp only at hp hq hol hjl k1 k2 k3 ⊢
 subst hp hq
 have hlen:qi[j].length≤1000000:=gq.inns _ (List.getElem_mem hjl)
 have hlen2:po[o].length≤1000000:=gp.outs _ (List.getElem_mem k1)
 have k3':=qah k3
 have k2':((po[o].length:Int)==pse[o])=true:=beq_iff_eq.2 k2
 refine qaf 200 (fn:=Tryz.f66) Tryz.func66 rfl (by simp [Tryz.ntmps66]) zB zB fun hs=>?_
 try refine zW ?_
 (refine walk_trim [1,2,3,4] trivial zL ?_;refine zW ?_;refine irun_walk (id:=1) (n:=200) [none,none,none,none,none,none,none,none,none,none,none,none,none,none,none,none,none,none,none,none,some [0,1,2,3,4,5,6,7,8,9,10,11,12,13,14,15,16,17,18,19,21],some [0,1,2,3,4,5,6,7,8,9,10,11,12,13,14,15,16,17,18,19,20],some [10,11,12,13,14,15,16,17,18,19],some []] qap (by kernel_rfl) ?_)
 (try simp (maxSteps:=2000000) (disch:=omega) only [go_sem,simprocAttr,zD,zE,eII,hx,ePc,ha,hb])
 (refine walk_trim [2,3,4,10,11] trivial zL ?_;refine zW ?_;refine irun_walk (id:=2) (n:=200) [none,none,none,none,some [5,7,8,9,10,12],none,some [7,8,9,10,12],none,none,none,none,some [12],none,some [],none,none] qap (by kernel_rfl) ?_)
 try refine zO ?_
 (refine at_dcall ?_;refine zW ?_;refine callA_of (qbZ N a ls hl) zB ?_;((try refine zW ?_);(try with_reducible exact True.intro)))
 try refine zO ?_
 (refine at_dcall ?_;refine zW ?_;refine callA_of (qbq _ _) zB ?_;((try refine zW ?_);(try with_reducible exact True.intro)))
 (try simp (maxSteps:=2000000) (disch:=omega) only [go_sem,simprocAttr,zD,zE,ho])
 (refine at_dcall ?_;refine zW ?_;refine callA_of (qcX N b ls hl) zB ?_;((try refine zW ?_);(try with_reducible exact True.intro)))
 try refine zO ?_
 (refine at_dcall ?_;refine zW ?_;refine callA_of (qbq _ _) zB ?_;((try refine zW ?_);(try with_reducible exact True.intro)))
 (try simp (maxSteps:=2000000) (disch:=omega) only [go_sem,simprocAttr,zD,zE,hj])
 (refine walk_trim [10,11,12,13] trivial zL ?_;refine zW ?_;refine irun_walk (id:=5) (n:=200) [none,none,none,none,none,none,none,none,none,none,none,none,none,none,none,none,none,none,none,none,none,none,none,none,none,none,none,none,none,none,some [],none,none,some []] qap (by kernel_rfl) ?_)
 (try simp (maxSteps:=2000000) (disch:=omega) only [go_sem,simprocAttr,zD,zE,eI,eMs,eLs,k2'])
 (refine at_dcall ?_;refine zW ?_;refine callA_of (qhv po[o] qi[j] hlen2 hlen) zB ?_;((try refine zW ?_);(try with_reducible exact True.intro)))
 (try simp (maxSteps:=2000000) (disch:=omega) only [go_sem,simprocAttr,zD,zE,k3'])
 (refine at_dcall ?_;refine zW ?_;refine callA_of (qfo) zB ?_;((try refine zW ?_);(try with_reducible exact True.intro)))
 try refine zO ?_
 (refine walk_trim [10,11,12,13] trivial zL ?_;refine zW ?_;refine irun_walk (id:=6) (n:=200) [none,none,none,none,none,none,none,none,none,none,none,none,none,none,none,some [0,1,2,3,4],none,none] qap (by kernel_rfl) ?_)
 (try simp (maxSteps:=2000000) (disch:=omega) only [go_sem,simprocAttr,zD,zE,eI,eMs,eLs])
 (refine at_dcall ?_;refine zW ?_;refine callA_of (qnL po[o] qi[j] hlen2 hlen) zB ?_;((try refine zW ?_);(try with_reducible exact True.intro)))
 ((try refine zO ?_);(try with_reducible exact True.intro))
theorem qm8 (s:Sc) (l:List Pc) (i a b o j:Nat) (p q:Pc) (hl:s.ls.length≤1000000) (h:LkF s.ls l i a b o j p q) (hg: ∀p∈l,gPc p) (hk: ¬LkOk s.ls l i):
  PX Tryz.prog 66 [lApp s,lPs l,sci .i64 i,scb true] [] gch (fun W=>W= []):=by
 have hk: ¬(o < p.out.length∧(∀(k1:o < p.out.length),(p.out[o].length:Int)=p.sent[o]'h.hol∧ ¬MixP p.out[o] (q.inn[j]'h.hjl))):=fun g=>hk ⟨by rw [h.P,h.O];exact g.1,by rw [h.S g.1,h.E];exact(g.2 g.1).1,by rw [h.S g.1,h.G];exact(g.2 g.1).2⟩
 obtain⟨N,ls,T,ff,room,acts⟩:=s
 simp only at hl h
 obtain⟨hx,ha,hb,hp,hq,ho,hol,hj,hjl,hoo,hjj,hP,hQ⟩:=h
 have li:i < ls.length:=by have:=qab hx;exact this
 have la:a < l.length:=qab ha
 have lb:b < l.length:=qab hb
 have gp:=hg _ (List.mem_of_getElem? ha)
 have gq:=hg _ (List.mem_of_getElem? hb)
 rw [List.getElem?_eq_getElem li] at hx
 rw [List.getElem?_eq_getElem la] at ha
 rw [List.getElem?_eq_getElem lb] at hb
 have hx:=Option.some.inj hx
 have ha:=Option.some.inj ha
 have hb:=Option.some.inj hb
 obtain⟨pn,ps,pt,pse,pi,po⟩:=p
 obtain⟨qn,qs,qt,qse,qi,qo⟩:=q
 simp only at hp hq hol hjl hk ⊢
 subst hp hq
 have hlen:qi[j].length≤1000000:=gq.inns _ (List.getElem_mem hjl)
 refine px_of 200 (fn:=Tryz.f66) Tryz.func66 rfl (by simp [Tryz.ntmps66]) 0 rfl zC zC fun hs=>?_
 try refine zW ?_
 (refine walk_trim [1,2,3,4] trivial zL ?_;refine zW ?_;refine irun_walk (id:=1) (n:=200) [none,none,none,none,none,none,none,none,none,none,none,none,none,none,none,none,none,none,none,none,some [0,1,2,3,4,5,6,7,8,9,10,11,12,13,14,15,16,17,18,19,21],some [0,1,2,3,4,5,6,7,8,9,10,11,12,13,14,15,16,17,18,19,20],some [10,11,12,13,14,15,16,17,18,19],some []] qap (by kernel_rfl) ?_)
 (try simp (maxSteps:=2000000) (disch:=omega) only [go_sem,simprocAttr,zD,zE,eII,hx,ePc,ha,hb])
 (refine walk_trim [2,3,4,10,11] trivial zL ?_;refine zW ?_;refine irun_walk (id:=2) (n:=200) [none,none,none,none,some [5,7,8,9,10,12],none,some [7,8,9,10,12],none,none,none,none,some [12],none,some [],none,none] qap (by kernel_rfl) ?_)
 try refine zO ?_
 (refine at_dcall ?_;refine zW ?_;refine callA_of (qbZ N a ls hl) zB ?_;((try refine zW ?_);(try with_reducible exact True.intro)))
 try refine zO ?_
 (refine at_dcall ?_;refine zW ?_;refine callA_of (qbq _ _) zB ?_;((try refine zW ?_);(try with_reducible exact True.intro)))
 (try simp (maxSteps:=2000000) (disch:=omega) only [go_sem,simprocAttr,zD,zE,ho])
 (refine at_dcall ?_;refine zW ?_;refine callA_of (qcX N b ls hl) zB ?_;((try refine zW ?_);(try with_reducible exact True.intro)))
 try refine zO ?_
 (refine at_dcall ?_;refine zW ?_;refine callA_of (qbq _ _) zB ?_;((try refine zW ?_);(try with_reducible exact True.intro)))
 (try simp (maxSteps:=2000000) (disch:=omega) only [go_sem,simprocAttr,zD,zE,hj])
 (refine walk_trim [10,11,12,13] trivial zL ?_;refine zW ?_;refine qpc [none,none,none,none,none,none,none,none,none,none,none,none,none,none,none,none,none,none,none,none,none,none,none,none,none,none,none,none,none,none,some [],none,none,some []] 33 [3,3,3,3,3,3,3,3,3,3,3,3,3,3,3,3,3,3,3,3,3,3,3,3,3,3,3,3,3,3,3,3,3,2] qap (by kernel_rfl) (by kernel_rfl) ?_)
 by_cases k1:o < po.length
 rotate_left
 ·(try simp (maxSteps:=2000000) (disch:=omega) only [go_sem,simprocAttr,zD,zE,eI,eMs,eLs])
  (refine qhl ?_;refine zW ?_;refine qc0 [] (qei) zU ?_)
  rintro W rfl nx' hnx
  (refine endX_of [] ?_ ?_ ?_ ?_ ?_<;>first | exact rfl | decide | omega | exact zU)
 by_cases k2:(po[o].length:Int)=pse[o]
 rotate_left
 ·have k2':((po[o].length:Int)==pse[o])=false:=beq_eq_false_iff_ne.2 k2
  (try simp (maxSteps:=2000000) (disch:=omega) only [go_sem,simprocAttr,zD,zE,eI,eMs,eLs,k2'])
  (refine qhl ?_;refine zW ?_;refine qc0 [] (qei) zU ?_)
  rintro W rfl nx' hnx
  (refine endX_of [] ?_ ?_ ?_ ?_ ?_<;>first | exact rfl | decide | omega | exact zU)
 have k2':((po[o].length:Int)==pse[o])=true:=beq_iff_eq.2 k2
 have k3:MixP po[o] qi[j]:=Classical.byContradiction fun q=>hk ⟨k1,fun _=>⟨k2,q⟩⟩
 have k3':=qam k3
 have hlen2:po[o].length≤1000000:=gp.outs _ (List.getElem_mem k1)
 (try simp (maxSteps:=2000000) (disch:=omega) only [go_sem,simprocAttr,zD,zE,eI,eMs,eLs,k2'])
 (refine at_dcall ?_;refine zW ?_;refine callA_of (qhv po[o] qi[j] hlen2 hlen) zB ?_;((try refine zW ?_);(try with_reducible exact True.intro)))
 (try simp (maxSteps:=2000000) (disch:=omega) only [go_sem,simprocAttr,zD,zE,k3'])
 (refine qhl ?_;refine zW ?_;refine qc0 [] (qei) zU ?_)
 rintro W rfl nx' hnx
 (refine endX_of [] ?_ ?_ ?_ ?_ ?_<;>first | exact rfl | decide | omega | exact zU)
def bldS (l:List Pc):List Int:=l.map (·.state)
def bldL (ls:List (Int × Int)) (l:List Pc) (logs:Bool):List (List (Int × Int)):=(List.range ls.length).map (lkM ls l logs)
def bldE (ls:List (Int × Int)) (l:List Pc):List Int:=(List.range ls.length).map (lkE ls l)
def BldP (N:Int) (ls:List (Int × Int)) (T:List Nd) (l:List Pc) (logs:Bool):Prop:=
 qcJ N ls T l∧(logs=true→ ∀i,i < ls.length→LkOk ls l i)∧qb0 N ls T (bldS l) (bldL ls l logs) (bldE ls l)
noncomputable def bldB (N:Int) (ls:List (Int × Int)) (T:List Nd) (l:List Pc) (logs:Bool):(List Int × List (List (Int × Int)) × List Int) × Int:=
 if tB (BldP N ls T l logs) then((bldS l,bldL ls l logs,bldE ls l),0) else(([], [], []),4)
abbrev lBld (r:(List Int × List (List (Int × Int)) × List Int) × Int):IV:= .tup [lCf r.1.1 r.1.2.1 r.1.2.2,sci .i64 r.2]
theorem qhp (s:Sc) (l:List Pc) (logs:Bool) (hl:s.ls.length≤1000000) (hT:qcq s.T) (hg: ∀p∈l,gPc p):Pure Tryz.prog 21 [lApp s,lPs l,scb logs] (lBld (bldB s.N s.ls s.T l logs)):=by
 by_cases hw:qcJ s.N s.ls s.T l
 rotate_left
 ·have e:bldB s.N s.ls s.T l logs=(([], [], []),4):=by rw [bldB,qah (fun h=>hw h.1)];rfl
  rw [e]
  exact qjX s l logs hl hT hg hw
 obtain⟨N,ls,T,ff,room,acts⟩:=s
 simp only at hl hT hw ⊢
 have eW:=qam hw
 have hll:l.length≤1000000:=by have:=hw.2.1;have:=hw.1.1.2.1;omega
 have bad: ¬BldP N ls T l logs→bldB N ls T l logs=(([], [], []),4):=fun h=>by rw [bldB,qah h];rfl
 have good:BldP N ls T l logs→bldB N ls T l logs=((bldS l,bldL ls l logs,bldE ls l),0):=fun h=>by rw [bldB,qam h];rfl
 obtain⟨S,hS⟩: ∃S,S=bldS l:=⟨_,rfl⟩
 obtain⟨L,hL⟩: ∃L,L=bldL ls l logs:=⟨_,rfl⟩
 obtain⟨E,hE⟩: ∃E,E=bldE ls l:=⟨_,rfl⟩
 have hLl:L.length=ls.length:=by rw [hL,bldL,List.length_map,List.length_range]
 have hEl:E.length=ls.length:=by rw [hE,bldE,List.length_map,List.length_range]
 have hLs: ∀(i:Nat) (li:i < ls.length),L.take (i+1)=L.take i++ [lkM ls l logs i]:=fun i li=>by
  have lL:i < L.length:=by omega
  rw [List.take_succ_eq_append_getElem lL];simp only [hL,bldL,List.getElem_map,List.getElem_range]
 have hEs: ∀(i:Nat) (li:i < ls.length),E.take (i+1)=E.take i++ [lkE ls l i]:=fun i li=>by
  have lE:i < E.length:=by omega
  rw [List.take_succ_eq_append_getElem lE];simp only [hE,bldE,List.getElem_map,List.getElem_range]
 rw [←hS,←hL,←hE] at good
 have hSd:bldS l=S:=hS.symm
 refine qk0 200 (fn:=Tryz.f21) Tryz.func21 rfl (by simp [Tryz.ntmps21]) zB zB fun hs=>?_
 try refine zW ?_
 refine qki 200 (x:=⟨.func 63, [.ptr 1 0 0 0, .ptr 2 0 0 0], []⟩) rfl rfl rfl ?_
 try refine zW ?_
 (refine qac 200 ?_;refine zW ?_;refine callA_of (qhy ⟨N,ls,T,ff,room,acts⟩ l hl hT hg) zB ?_;((try refine zW ?_);(try with_reducible exact True.intro)))
 (try simp (maxSteps:=2000000) (disch:=omega) only [go_sem,simprocAttr,zD,zE,eW])
 (refine qac 200 ?_;refine zW ?_;refine callA_of (qfo) zB ?_;((try refine zW ?_);(try with_reducible exact True.intro)))
 (refine qac 200 ?_;refine zW ?_;refine callA_of (qny _ _ (by simp only [go_sem]) (by simp only [go_sem]) qlo l hll) zB ?_;((try refine zW ?_);(try with_reducible exact True.intro)))
 rw [show l.map (fun p=>p.state)=S from hSd]
 try refine zO ?_
 refine walk_ownB 1 0 1 1 trivial rfl rfl rfl (.inr rfl) ?_
 simp only [List.set_cons_zero,List.set_cons_succ,Nat.reduceAdd]
 refine walk_ownB 1 0 2 1 trivial rfl rfl rfl (.inr rfl) ?_
 simp only [List.set_cons_zero,List.set_cons_succ,Nat.reduceAdd]
 (refine walk_trim [1,2,3,6,7,22,23,38,54] trivial zL ?_;((try refine zW ?_);(try with_reducible exact True.intro)))
 refine qad 200 200 (fun i:Nat=>i≤ls.length∧(logs=true→ ∀k,k < i→LkOk ls l k))
  (fun i=>⟨52, [(1,lPs l),(2,scb logs),(3, .ptr 0 0 0 0),(6, .ptr 1 0 0 0),(7, .ptr 2 0 0 0),(22,sci .i64 ls.length),(23,sci .i64 i)], [⟨.func 63, [.ptr 1 0 0 0, .ptr 2 0 0 0], []⟩],5,
   [(4, .arr 1 i (ir eI (E.take i))),(3, .arr 1 i (ir eMs (L.take i))),(1, .arr 3 0 [[lI S, .ref 3 i 0 i, .ref 4 i 0 i]]),(2, .arr 1 0 [[sci .i64 0]]),(0, .arr 4 0 [[sci .i64 N,lII ls, .p (.imm 2 (pr eNd T)),scb ff]])]⟩)
  (fun i=>ls.length - i) 0 [] ?_ ?_ ?_
 ·exact⟨Nat.zero_le _,fun _ k hk=>absurd hk (Nat.not_lt_zero k)⟩
 ·constructor<;>(try simp (maxSteps:=2000000) (disch:=omega) only [go_sem,simprocAttr,zD,zE,Int.natCast_zero,List.take_zero])
 ·rintro i ⟨hi,hinv⟩
  try refine zW ?_
  by_cases li:i < ls.length
  ·obtain⟨a,b,o,j,p,q,hf⟩:=link_f hw li
   have hpt:=hLs i li
   have hpe:=hEs i li
   have he1:(eI (lkE ls l i)).map IV.p= [.p (.sc (.int .i64 (lkE ls l i)))]:=rfl
   have hm1: ∀g,(eMs (lkM ls l g i)).map IV.p= [.p (.imm 2 (pr eII (lkM ls l g i)))]:=fun _=>rfl
   have ht1:(L.take i).length=i:=by rw [List.length_take];omega
   have ht2:(E.take i).length=i:=by rw [List.length_take];omega
   have ht3:(L.take i).take i=L.take i:=by rw [List.take_take,Nat.min_self]
   have ht4:(E.take i).take i=E.take i:=by rw [List.take_take,Nat.min_self]
   try refine zO ?_
   cases logs with
   | false=>
     (refine qac 200 ?_;refine zW ?_;refine callA_of (qlT ⟨N,ls,T,ff,room,acts⟩ l i a b o j p q hl hf hg) zB ?_;((try refine zW ?_);(try with_reducible exact True.intro)))
     try refine zO ?_
     (refine walk_trim [1,2,3,6,7,9,10,22,23,54] trivial zL ?_;refine zW ?_;refine irun_walk (id:=8) (n:=200) [none,none,none,some [0,1,5,6,7,8],some [5,6,7,8],none,none,none,some [0,1,2,3,4,5,6,10],some [10],none,some [],none,some []] qap (by kernel_rfl) ?_)
     (try simp (maxSteps:=2000000) (disch:=omega) only [go_sem,simprocAttr,zD,zE,ht1,ht2])
     refine⟨i+1, [],li,by omega,?_⟩
     constructor<;>(try simp (maxSteps:=2000000) (disch:=omega) only [go_sem,simprocAttr,zD,zE,hpt,hpe,ht3,ht4,ir_snoc,hm1])
   | true=>
     by_cases hk:LkOk ls l i
     ·(refine qac 200 ?_;refine zW ?_;refine callA_of (qkL ⟨N,ls,T,ff,room,acts⟩ l i a b o j p q hl hf hg hk) zB ?_;((try refine zW ?_);(try with_reducible exact True.intro)))
      try refine zO ?_
      (refine walk_trim [1,2,3,6,7,9,10,22,23,54] trivial zL ?_;refine zW ?_;refine irun_walk (id:=8) (n:=200) [none,none,none,some [0,1,5,6,7,8],some [5,6,7,8],none,none,none,some [0,1,2,3,4,5,6,10],some [10],none,some [],none,some []] qap (by kernel_rfl) ?_)
      (try simp (maxSteps:=2000000) (disch:=omega) only [go_sem,simprocAttr,zD,zE,ht1,ht2])
      refine⟨i+1, [],⟨li,fun k hk2=>by
       rcases Nat.lt_or_ge k i with q | q
       ·exact hinv rfl k q
       ·obtain rfl:k=i:=by omega
        exact hk⟩,by omega,?_⟩
      constructor<;>(try simp (maxSteps:=2000000) (disch:=omega) only [go_sem,simprocAttr,zD,zE,hpt,hpe,ht3,ht4,ir_snoc,hm1])
     ·have e:=bad fun h=>hk (h.2.1 rfl i li)
      rw [e]
      (refine at_x ?_;refine zW ?_;refine qc0 [] (qm8 ⟨N,ls,T,ff,room,acts⟩ l i a b o j p q hl hf hg hk) zU ?_)
      rintro W rfl
      ((try refine zO ?_);(try with_reducible exact True.intro));unfold gch;refine leaves_rec 200 rfl Tryz.func63 rfl (by simp [Tryz.ntmps63]) rfl ?_;(try simp (maxSteps:=2000000) only [go_sem,simprocAttr,tzvG]);(refine qdU ?_ ?_ ?_<;>((try refine zO ?_);(try with_reducible exact True.intro)))
  ·obtain rfl:i=ls.length:=by omega
   have e1:L.take ls.length=L:=List.take_of_length_le (by omega)
   have e2:E.take ls.length=E:=List.take_of_length_le (by omega)
   (try simp (maxSteps:=2000000) (disch:=omega) only [go_sem,simprocAttr,zD,zE,e1,e2])
   refine qbY 200 [3,4] ⟨52, [(3, .ptr 0 0 0 0),(6, .ptr 1 0 0 0),(7, .ptr 2 0 0 0),(47, .agg [sci .i64 N,lII ls, .p (.imm 2 (pr eNd T)),scb ff]),(48,lCf S L E)], [⟨.func 63, [.ptr 1 0 0 0, .ptr 2 0 0 0], []⟩],5, [(1, .arr 3 0 [[lI S,lMs L,lI E]]),(2, .arr 1 0 [[sci .i64 0]]),(0, .arr 4 0 [[sci .i64 N,lII ls, .p (.imm 2 (pr eNd T)),scb ff]])]⟩ trivial ?_ ?_
   ·constructor<;>(try simp (maxSteps:=2000000) (disch:=omega) only [go_sem,simprocAttr,zD,zE,e1,e2])
   try refine zW ?_
   (refine qac 200 ?_;refine zW ?_;refine callA_of (qly N ls T ff S L E hT hl) zB ?_;((try refine zW ?_);(try with_reducible exact True.intro)))
   by_cases hC:qb0 N ls T S L E
   ·have eC:=qam hC
    rw [good ⟨hw,fun h=>hinv h,by rw [←hS,←hL,←hE];exact hC⟩]
    (try simp (maxSteps:=2000000) (disch:=omega) only [go_sem,simprocAttr,zD,zE,eC])
    (refine qac 200 ?_;refine zW ?_;refine callA_of (qfo) zB ?_;((try refine zW ?_);(try with_reducible exact True.intro)))
    try refine zO ?_
    refine leaves_rec 200 rfl Tryz.func63 rfl (by simp [Tryz.ntmps63]) rfl ?_;(try simp (maxSteps:=2000000) only [go_sem,simprocAttr,tzvG]);(refine qdU ?_ ?_ ?_<;>((try refine zO ?_);(try with_reducible exact True.intro)))
   ·have eC:=qah hC
    have e:=bad fun h=>hC (by have:=h.2.2;rw [←hS,←hL,←hE] at this;exact this)
    rw [e]
    (try simp (maxSteps:=2000000) (disch:=omega) only [go_sem,simprocAttr,zD,zE,eC])
    (refine at_x ?_;refine zW ?_;refine qc0 [] (qei) zU ?_)
    rintro W rfl
    ((try refine zO ?_);(try with_reducible exact True.intro));unfold gch;refine leaves_rec 200 rfl Tryz.func63 rfl (by simp [Tryz.ntmps63]) rfl ?_;(try simp (maxSteps:=2000000) only [go_sem,simprocAttr,tzvG]);(refine qdU ?_ ?_ ?_<;>((try refine zO ?_);(try with_reducible exact True.intro)))
end Go.Proofs.GY
