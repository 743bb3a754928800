/- Facts that the proofs of this claim lean on. -/
import Derived.Test.YtfhhdgkhajkapaaGreatNzCq
import Derived.Test.YtfhhdgkhajkapaaGreatNzPl
import Derived.Test.YtfhhdgkhajkapaaGreatNMg
import Derived.Test.YtfhhdgkhajkapaaGreatIdZq
set_option linter.unusedSimpArgs false
set_option linter.unusedVariables false
/- A configuration with lists of its own, all of them held. -/
namespace Go.Proofs.NO
open Go Go.Idl Go.Proofs Go.GP
set_option maxHeartbeats 20000000
set_option maxRecDepth 100000
def νO (i:Nat):Nat:=match i with
 | 0=>2
 | 1=>3
 | 2=>4
 | i+3=>6+i
def ownW (S:List Int) (L:List (List (Int × Int))) (E:List Int) (k:Nat):List (Nat × IBlk):=
 (0, .arr 1 0 (ir eI S))::(1, .arr 1 0 (qak k (qae L)))::(2, .arr 1 0 (ir eI E))::qai k (famB 2 eII (qae L))
theorem qnr {β:Type} {xs:List (Nat × List β)} {k m:Nat} {x:Nat × List β} {r:List IV}:(qak k xs++List.replicate (m+1) r).set xs.length [.ref (k+xs.length) x.1 0 x.2.length]=qak k (xs++ [x])++List.replicate m r:=by
 have h:(qak k xs).length=xs.length:=qbA
 rw [←h,List.set_append_right _ _ (Nat.le_refl _),Nat.sub_self,List.replicate_succ,List.set_cons_zero,h,qeK,List.append_assoc];rfl
theorem qlb {n m:Nat}:qbd n (List.replicate m [nil0]):=by
 induction m with
 | zero=>trivial
 | succ m ih=>exact⟨⟨trivial,trivial⟩,ih⟩
theorem νO_inj {c:Nat}: ∀i j,i < c→j < c→νO i=νO j→i=j:=by
 intro i j _ _ e
 rcases i with _ | _ | _ | i<;>rcases j with _ | _ | _ | j<;>simp only [νO] at e<;>omega
theorem ownW_low (S:List Int) (L:List (List (Int × Int))) (E:List Int) {c:Nat} (hc:c=3+L.length):qbs c (ownW S L E 3):=by
 refine⟨by show 0 < c;omega,by rw [qcb,qcf];trivial,by show 1 < c;omega,by rw [qcb];exact qbh (by rw [qaT];omega),by show 2 < c;omega,by rw [qcb,qcf];trivial,qde (by rw [qaT];omega)⟩
theorem qop (S:List Int) (L:List (List (Int × Int))) (E:List Int) {c:Nat} (hc:c=3+L.length):hasAll (ownW S L E 3) 0 c:=by
 refine qff fun i h1 h2=>?_
 rcases i with _ | _ | _ | i
 ·rfl
 ·rfl
 ·rfl
 ·have:=qaW (sz:=2) (e:=eII) (k:=3) (r:= []) (xs:=qae L) (i:=i) (by rw [qaT];omega)
  rw [List.append_nil] at this
  show(if 0=i+3 then _ else if 1=i+3 then _ else if 2=i+3 then _ else Idl.look _ _:Option IBlk).isSome=true
  rw [if_neg (by omega),if_neg (by omega),if_neg (by omega),show i+3=3+i by omega,this];rfl
theorem νO_3 (i:Nat):νO (3+i)=6+i:=by rw [Nat.add_comm 3 i];rfl
theorem qoq (S:List Int) (L:List (List (Int × Int))) (E:List Int):rnL νO (ownW S L E 3)=(2, .arr 1 0 (ir eI S))::(3, .arr 1 0 (qak 6 (qae L)))::(4, .arr 1 0 (ir eI E))::qai 6 (famB 2 eII (qae L)):=by
 have eL:rnL νO (qai 3 (famB 2 eII (qae L)))=qai 6 (famB 2 eII (qae L)):=qdr fun i _=>νO_3 i
 have eR:rnRw νO (qak 3 (qae L))=qak 6 (qae L):=qbV fun i _=>νO_3 i
 unfold ownW
 (try simp only [go_sem,simprocAttr,eL,eR])
 rfl
theorem qos (S:List Int) (L:List (List (Int × Int))) (E:List Int) (hS:S.length≤1000000) (hL:L.length≤1000000) (hE:E.length≤1000000) (hl: ∀x∈L,x.length≤1000000) {c:Nat} (hc:c=3+L.length):
  PG Tryz.prog 172 [lCf S L E] [] c (.agg [.ref 0 0 0 S.length, .ref 1 0 0 L.length, .ref 2 0 0 E.length]) (ownW S L E 3):=by
 refine qba 200 (fn:=Tryz.f172) Tryz.func172 rfl (by simp [Tryz.ntmps172]) 0 rfl (by((try refine zW ?_);(try with_reducible exact True.intro))) (by((try refine zW ?_);(try with_reducible exact True.intro))) ?_ ?_ (by((try refine zW ?_);(try with_reducible exact True.intro));omega) fun hs=>?_
 ·show qbs (0+c) _;rw [Nat.zero_add];exact ownW_low S L E hc
 ·exact qop S L E hc
 try refine zW ?_
 (refine walk_trim [1,2,40] trivial zL ?_;refine zW ?_;refine irun_walk (id:=1) (n:=200) [none,none,none,some [4,5,6,7,8,9,10,11,13],none,none,none,some [0,1,2,3,8,9,10,11,13],none,none,none,some [0,1,2,3,4,5,6,7,13],none,some [0,1,2,3,4,5,6,7,8,9,10,11,12],some []] qan (by kernel_rfl) ?_)
 try refine zO ?_
 (refine walk_trim [2,3,30,31,32,40] trivial zL ?_;((try refine zW ?_);(try with_reducible exact True.intro)))
 refine qal 200 200 (fun i:Nat=>i≤L.length)
  (fun i=>⟨45, [(2, .ptr 1 0 0 0),(3, .ptr 5 0 0 0),(30,lMs L),(31,sci .i64 L.length),(32,sci .i64 i)], [],6+i,
   (2, .arr 1 0 (ir eI S))::(3, .arr 1 0 (qak 6 (qae (L.take i))++List.replicate (L.length - i) [nil0]))::(4, .arr 1 0 (ir eI E))::(5, .arr 3 0 [[.ref 2 0 0 S.length, .ref 3 0 0 L.length, .ref 4 0 0 E.length]])::(1, .arr 3 0 [[nil0,nil0,nil0]])::qai 6 (famB 2 eII (qae (L.take i)))⟩)
  (fun i=>L.length - i) 0 [] ?_ ?_ ?_
 ·simp
 ·constructor<;>(try simp (maxSteps:=2000000) (disch:=omega) only [go_sem,simprocAttr,zD,zE,Int.natCast_zero,List.take_zero,qae,List.map_nil,qak,famB,qai,List.nil_append,Nat.sub_zero])
 ·intro i h1
  have htl:(qae (L.take i)).length=i:=by rw [qaT,List.length_take];omega
  have hrl:(qak 6 (qae (L.take i))++List.replicate (L.length - i) [nil0]).length=L.length:=by rw [List.length_append,qbA,htl,List.length_replicate];omega
  try refine zW ?_
  by_cases li:i < L.length
  ·have e2:qae (L.take (i+1))=qae (L.take i)++ [(0,L[i])]:=by rw [List.take_succ_eq_append_getElem li,qgf]
   have hset:(qak 6 (qae (L.take i))++List.replicate (L.length - i) [nil0]).set i [.ref (6+i) 0 0 L[i].length]=qak 6 (qae (L.take (i+1)))++List.replicate (L.length - (i+1)) [nil0]:=by
    have:=qnr (xs:=qae (L.take i)) (k:=6) (m:=L.length - (i+1)) (x:=(0,L[i])) (r:= [nil0])
    rw [htl,show L.length - (i+1)+1=L.length - i by omega] at this
    rw [this,e2]
   have hget:(qak 6 (qae (L.take i))++List.replicate (L.length - i) [nil0])[i]? =some [nil0]:=by
    rw [List.getElem?_append_right (by rw [qbA];omega),qbA,htl,Nat.sub_self,List.getElem?_replicate,if_pos (by omega)]
   have hli:=hl _ (List.getElem_mem li)
   (try simp (maxSteps:=2000000) (disch:=omega) only [go_sem,simprocAttr,zD,zE,eMs])
   (refine walk_trim [2,3,4,5,30,31,32] trivial zL ?_;refine zW ?_;refine irun_walk (id:=7) (n:=200) [none,none,none,none,some [0,1,2],none,some []] qan (by kernel_rfl) ?_)
   (try simp (maxSteps:=2000000) (disch:=omega) only [go_sem,simprocAttr,zD,zE,eMs])
   (refine qes ?_;refine zW ?_;refine qaB [] (qeo L[i] hli) zU ?_;((try refine zW ?_);(try with_reducible exact True.intro)))
   (try simp (maxSteps:=2000000) (disch:=omega) only [go_sem,simprocAttr,zD,zE,qaV,htl,hget,hset])
   have hfl:(famB 2 eII (qae (L.take (i+1)))).length=i+1:=by rw [qcq,e2,List.length_append,htl];rfl
   have hfl2:(qae (L.take (i+1))).length=i+1:=by rw [e2,List.length_append,htl];rfl
   refine⟨by omega,i+1, [],li,by omega,?_⟩
   constructor
   case blks=>
    (try simp (maxSteps:=2000000) (disch:=omega) only [go_sem,simprocAttr,zD,zE,qaV,htl])
    refine qb5 (.inl rfl) fun j hj=>?_
    have hx2:(qae (L.take (i+1)))[j]=(0,L[j]'(by omega)):=by simp [qae]
    rw [hx2]
    rw [hfl2] at hj
    by_cases hji:j=i
    ·subst hji
     ((try refine zO ?_);(try with_reducible exact True.intro))
    ·have hj2:j < (qae (L.take i)).length:=by omega
     have hx:(qae (L.take i))[j]=(0,L[j]):=by simp [qae]
     try refine zO ?_
     have:=qaW (sz:=2) (e:=eII) (k:=6) (r:= []) hj2
     rw [List.append_nil] at this
     rw [this,hx]
   all_goals(((try refine zO ?_);(try with_reducible exact True.intro));try omega)
  ·obtain rfl:i=L.length:=by omega
   have e2:L.take L.length=L:=List.take_length
   rw [e2] at htl hrl ⊢
   (try simp (maxSteps:=2000000) (disch:=omega) only [go_sem,simprocAttr,zD,zE,qaV,htl])
   refine qoL νO (.inr rfl) νO_inj (by(try simp (maxSteps:=2000000) (disch:=omega) only [go_sem,simprocAttr,zD,zE,qaV,htl]);rfl) (by((try refine zW ?_);(try with_reducible exact True.intro));omega) (ownW_low S L E hc) ?_
   rw [qoq,List.append_nil]
   refine⟨rfl,rfl,rfl,qcF fun i hi=>?_⟩
   have:=qaW (sz:=2) (e:=eII) (k:=6) (r:= []) hi
   rw [List.append_nil] at this
   rw [htl] at hi
   try refine zO ?_
   exact this
structure Sp where
 kind:Int
 node:Int
 k:Int
 link:Int
 seq:Int
abbrev lSp (s:Sp):IV:= .agg [sci .i64 s.kind,sci .i64 s.node,sci .i64 s.k,sci .i64 s.link,sci .i64 s.seq]
structure Cf where
 S:List Int
 L:List (List (Int × Int))
 E:List Int
def zCf0:Cf:=⟨[], [], []⟩
abbrev lC (c:Cf):IV:=lCf c.S c.L c.E
def pkC (ls:List (Int × Int)) (n:Int):List (Int × Int)→List (List (Int × Int))→List Int→Option (List (List (Int × Int)) × List Int)
 | [],L,E=>some (L,E)
 | s::r,L,E=>
   if 500≤(E[(qat n s.1 0 ls).toNat]?).getD 0 then none
   else pkC ls n r (L.set (qat n s.1 0 ls).toNat ((L[(qat n s.1 0 ls).toNat]?).getD []++ [((E[(qat n s.1 0 ls).toNat]?).getD 0+1,s.2)])) (E.set (qat n s.1 0 ls).toNat ((E[(qat n s.1 0 ls).toNat]?).getD 0+1))
def qfX (ls:List (Int × Int)) (st:St) (c:Cf) (n:Nat) (k:Int):Cf × Int:=
 if st.mode≠1 then(zCf0,8)
 else if k < 0 then(zCf0,3)
 else match st.picks[k.toNat]? with
 | none=>(zCf0,3)
 | some p=>match pkC ls n p.2 c.L c.E with
   | none=>(zCf0,2)
   | some (L,E)=>(⟨c.S.set n p.1,L,E⟩,0)
abbrev lApd (r:Cf × Int):IV:= .tup [lC r.1,sci .i64 r.2]
def νP (i:Nat):Nat:=match i with
 | 0=>5
 | 1=>6
 | 2=>7
 | i+3=>1000+i
theorem νP_3 (i:Nat):νP (3+i)=1000+i:=by rw [Nat.add_comm 3 i];rfl
theorem qnm (S:List Int) (L:List (List (Int × Int))) (E:List Int):rnL νP (ownW S L E 3)=(5, .arr 1 0 (ir eI S))::(6, .arr 1 0 (qak 1000 (qae L)))::(7, .arr 1 0 (ir eI E))::qai 1000 (famB 2 eII (qae L)):=by
 have eL:rnL νP (qai 3 (famB 2 eII (qae L)))=qai 1000 (famB 2 eII (qae L)):=qdr fun i _=>νP_3 i
 have eR:rnRw νP (qak 3 (qae L))=qak 1000 (qae L):=qbV fun i _=>νP_3 i
 unfold ownW
 (try simp only [go_sem,simprocAttr,eL,eR])
 rfl
theorem νP_inj {c:Nat}: ∀i j,i < c→j < c→νP i=νP j→i=j:=by
 intro i j _ _ e
 rcases i with _ | _ | _ | i<;>rcases j with _ | _ | _ | j<;>simp only [νP] at e<;>omega
theorem pickBad_spec (N:Int) (ls:List (Int × Int)) (T:List Nd) (ff:Bool) (c:Cf) (s:Sp) (hs0:s.node < 0∨N≤s.node):
  Pure Tryz.prog 91 [.agg [sci .i64 N,lII ls, .p (.imm 2 (pr eNd T)),scb ff],lC c,lSp s] (lApd (zCf0,1)):=by
 obtain⟨kind,node,k,link,seq⟩:=s
 simp only at hs0
 refine qah 200 (fn:=Tryz.f91) Tryz.func91 rfl (by simp [Tryz.ntmps91]) zB zB fun hs=>?_
 try refine zW ?_
 by_cases h:node < 0
 ·(try simp (disch:=omega) only [go_sem,simprocAttr,zD,zE,h,zCf0])
 ·have h2:N≤node:=by omega
  (try simp (disch:=omega) only [go_sem,simprocAttr,zD,zE,h,h2,zCf0])
theorem qnn (N:Int) (ls:List (Int × Int)) (T:List Nd) (ff:Bool) (c:Cf) (s:Sp) (n j:Nat) (x:Nd) (st:St) (hn:s.node=n) (hN:(n:Int) < N) (hj:c.S[n]? =some (j:Int)) (hx:T[n]? =some x) (hq:x.states[j]? =some st)
  (hl:ls.length≤1000) (hp: ∀p∈st.picks,p.2.length≤1000∧ ∀y∈p.2,((n:Int),y.1)∈ls) (hL:c.L.length=ls.length) (hE:c.E.length=ls.length) (hS:c.S.length≤1000000) (hg: ∀l∈c.L,l.length≤1000000 - 1000)
  (hg2: ∀e∈c.E, -1000≤e):
  Pure Tryz.prog 91 [.agg [sci .i64 N,lII ls, .p (.imm 2 (pr eNd T)),scb ff],lC c,lSp s] (lApd (qfX ls st c n s.k)):=by
 obtain⟨kind,node,k,link,seq⟩:=s
 obtain⟨S,L,E⟩:=c
 simp only at hn hj hL hE hS hg hg2
 subst hn
 have ln:n < S.length:=qab hj
 have hSn:S[n]=(j:Int):=by rw [List.getElem?_eq_getElem ln] at hj;exact Option.some.inj hj
 have hPk:=qga T n j x st hx hq k fun p hp'=>Nat.le_trans (hp p hp').1 (by omega)
 have hn0: ¬(n:Int) < 0:=by omega
 have hnN: ¬N≤(n:Int):=by omega
 generalize hres:qfX ls st ⟨S,L,E⟩ n k=res
 unfold qfX at hres
 simp only at hres
 refine qah 200 (fn:=Tryz.f91) Tryz.func91 rfl (by simp [Tryz.ntmps91]) zB zB fun hs=>?_
 ((try refine zW ?_);(try with_reducible exact True.intro))
 (try simp (maxSteps:=2000000) (disch:=omega) only [go_sem,simprocAttr,zD,zE,hn0,hnN,eI,hSn])
 (refine qaf 200 ?_;refine zW ?_;refine callA_of (qhR T n j x st hx hq) zB ?_;((try refine zW ?_);(try with_reducible exact True.intro)))
 by_cases h1:st.mode=1
 rotate_left
 ·rw [if_pos h1] at hres
  subst hres
  (try simp (maxSteps:=2000000) (disch:=omega) only [go_sem,simprocAttr,zD,zE,h1,zCf0])
 rw [if_neg (fun q=>q h1)] at hres
 (try simp (maxSteps:=2000000) (disch:=omega) only [go_sem,simprocAttr,zD,zE,h1])
 by_cases h2:k < 0
 ·rw [if_pos h2] at hres hPk
  subst hres
  (refine qaf 200 ?_;refine zW ?_;refine callA_of (hPk) zB ?_;((try refine zW ?_);(try with_reducible exact True.intro)))
  (try simp (maxSteps:=2000000) (disch:=omega) only [go_sem,simprocAttr,zD,zE,zCf0])
 rw [if_neg h2] at hres hPk
 cases h3:st.picks[k.toNat]? with
 | none=>
   rw [h3] at hres hPk
   subst hres
   (refine qaf 200 ?_;refine zW ?_;refine callA_of (hPk) zB ?_;((try refine zW ?_);(try with_reducible exact True.intro)))
   (try simp (maxSteps:=2000000) (disch:=omega) only [go_sem,simprocAttr,zD,zE,zCf0])
 | some p=>
   obtain⟨hpl,hpm⟩:=hp p (List.mem_of_getElem? h3)
   rw [h3] at hres hPk
   obtain⟨nxt,sends⟩:=p
   simp only at hpl hpm hres hPk
   (refine qaf 200 ?_;refine zW ?_;refine callA_of (hPk) zB ?_;((try refine zW ?_);(try with_reducible exact True.intro)))
   try refine zO ?_
   have hgl: ∀l∈L,l.length≤1000000:=fun l h=>by have:=hg l h;omega
   refine at_gN 200 νP 3000000 (qos S L E hS (by omega) (by omega) hgl rfl) νP_inj ?_ (by omega) ?_
   ·intro i hi
    rcases i with _ | _ | _ | i<;>simp only [νP]<;>omega
   have eO:=qnm S L E
   have eF:=qaT L
   have ν0:νP 0=5:=rfl
   have ν1:νP 1=6:=rfl
   have ν2:νP 2=7:=rfl
   have hsetS:(ir eI S).set n [IV.p (.sc (.int .i64 nxt))]=ir eI (S.set n nxt):=by simp only [ir,List.map_set];rfl
   have heI: ∀x:Int,List.map IV.p (eI x)= [.p (.sc (.int .i64 x))]:=fun _=>rfl
   (try simp (maxSteps:=2000000) (disch:=omega) only [go_sem,simprocAttr,zD,zE,ν0,ν1,ν2,eO,qaV,eF,heI,List.drop_succ_cons,List.drop_nil,List.drop_zero,List.length_cons,List.length_nil,hsetS])
   clear eO ν0 ν1 ν2 hPk
   obtain⟨S',hS'⟩: ∃S',S'=S.set n nxt:=⟨_,rfl⟩
   have hSl':S'.length=S.length:=by rw [hS',List.length_set]
   rw [←hS'] at hres ⊢
   clear hsetS
   have hfm:(qae L).map (·.2)=L:=by rw [qae,List.map_map];exact List.map_id' _
   refine qal 0 200 (fun z:Nat × List (Nat × List (Int × Int)) × List Int=>z.1≤sends.length∧z.2.1.length=ls.length∧z.2.2.length=ls.length∧pkC ls n (sends.drop z.1) (z.2.1.map (·.2)) z.2.2=pkC ls n sends L E∧(∀y∈z.2.1,y.2.length≤999000+z.1)∧ ∀e∈z.2.2, -1000≤e)
    (fun z=>⟨113, [(3, .ptr 0 0 0 0),(5, .ptr 2 0 0 0),(6, .ptr 3 0 0 0),(11, .ptr 3000000 0 0 0),(65,lII sends),(66,sci .i64 sends.length),(67,sci .i64 z.1)], [],3000001,
     (3000000, .arr 3 0 [[.ref 5 0 0 S.length, .ref 6 0 0 L.length, .ref 7 0 0 E.length]])::(5, .arr 1 0 (ir eI S'))::(6, .arr 1 0 (qak 1000 z.2.1))::(7, .arr 1 0 (ir eI z.2.2))::(3, .arr 3 0 [[nil0,nil0,nil0]])::(2, .arr 5 0 [[sci .i64 kind,sci .i64 n,sci .i64 k,sci .i64 link,sci .i64 seq]])::(0, .arr 4 0 [[sci .i64 N,lII ls, .p (.imm 2 (pr eNd T)),scb ff]])::qai 1000 (famB 2 eII z.2.1)⟩)
    (fun z=>sends.length - z.1) (0,qae L,E) [] ?_ ?_ ?_
   ·exact⟨Nat.zero_le _,by rw [eF,hL],hE,by rw [hfm];rfl,fun y hy=>by
     have h9:y.2∈(qae L).map (·.2):=List.mem_map_of_mem hy
     rw [hfm] at h9
     have:=hg _ h9
     omega,hg2⟩
   ·constructor
    case blks=>
     (try simp (maxSteps:=2000000) (disch:=omega) only [go_sem,simprocAttr,zD,zE,qaV,eF])
     refine qb5 (.inl rfl) fun i hi=>?_
     have hi':=hi
     rw [eF] at hi'
     (try simp (maxSteps:=2000000) (disch:=omega) only [go_sem,simprocAttr,zD,zE,qaW])
    all_goals(try simp (maxSteps:=2000000) (disch:=omega) only [go_sem,simprocAttr,zD,zE,Int.natCast_zero])
   ·rintro⟨i,cur,E'⟩ ⟨i1,i2,i3,i4,i5,i6⟩
    simp only at i1 i2 i3 i4 i5 i6
    have hrl:(qak 1000 cur).length=cur.length:=qbA
    by_cases li:i < sends.length
    ·have hm:=hpm _ (List.getElem_mem li)
     rw [List.drop_eq_getElem_cons li,pkC] at i4
     generalize hz:sends[i]=z at *
     obtain⟨to,lt⟩:=z
     simp only at hm i4
     obtain⟨q,hql,hq1,hq2⟩:=qcG (qbn (s:=0).2 hm)
     rw [Nat.zero_add] at hq1
     rw [hq1,Int.toNat_natCast] at i4
     have lq:q < cur.length:=by omega
     have lE:q < E'.length:=by omega
     have hcq:(cur.map (·.2))[q]? =some cur[q].2:=by rw [List.getElem?_map,List.getElem?_eq_getElem lq];rfl
     have hcs: ∀v:List (Int × Int),∀g:Nat,(cur.set q (g,v)).map (·.2)=(cur.map (·.2)).set q v:=fun v g=>by rw [List.map_set]
     have hEq:E'[q]? =some E'[q]:=List.getElem?_eq_getElem lE
     rw [hcq,hEq,Option.getD_some,Option.getD_some] at i4
     have hrg:(qak 1000 cur)[q]? =some [.ref (1000+q) cur[q].1 0 cur[q].2.length]:=qcz lq
     have hrs: ∀x:Nat × List (Int × Int),(qak 1000 cur).set q [.ref (1000+q) x.1 0 x.2.length]=qak 1000 (cur.set q x):=fun x=>qfy lq
     have hlk: ∀r,Idl.look (qai 1000 (famB 2 eII cur)++r) (1000+q)=some (.arr 2 cur[q].1 (ir eII cur[q].2)):=fun r=>qaW lq
     have hlk0:Idl.look (qai 1000 (famB 2 eII cur)) (1000+q)=some (.arr 2 cur[q].1 (ir eII cur[q].2)):=by have:=hlk [];rwa [List.append_nil] at this
     have ho9:=i5 _ (List.getElem_mem lq)
     have he9:=i6 _ (List.getElem_mem lE)
     generalize ho2:cur[q]=o at *
     generalize he2:E'[q]=e at *
     obtain⟨go,o⟩:=o
     simp only at i4 hrg hlk hlk0 ho9
     by_cases h500:500≤e
     ·rw [if_pos h500] at i4
      rw [←i4] at hres
      simp only at hres
      subst hres
      clear i4 hcs hrs hcq
      ((try refine zW ?_);(try with_reducible exact True.intro))
      (try simp (maxSteps:=2000000) (disch:=omega) only [go_sem,simprocAttr,zD,zE,eII,hz])
      (refine qaf 200 ?_;refine zW ?_;refine callA_of (qdG N n to ls (by omega)) zB ?_;((try refine zW ?_);(try with_reducible exact True.intro)))
      (try simp (maxSteps:=2000000) (disch:=omega) only [go_sem,simprocAttr,zD,zE,hq1,eI,he2,h500,zCf0])
     ·rw [if_neg h500] at i4
      have hcur: ∀g,(List.map (fun x=>x.snd) cur).set q (o++ [(e+1,lt)])=(cur.set q (g,o++ [(e+1,lt)])).map (·.2):=fun g=>(hcs _ g).symm
      rw [hcur (go+1)] at i4
      have hset:(qak 1000 cur).set q [.ref (1000+q) (go+1) 0 (o.length+1)]=qak 1000 (cur.set q (go+1,o++ [(e+1,lt)])):=by
       have:=hrs (go+1,o++ [(e+1,lt)])
       rwa [show(go+1,o++ [(e+1,lt)]).2.length=o.length+1 by simp] at this
      have hgs:(qak 1000 (cur.set q (go+1,o++ [(e+1,lt)])))[q]? =some [.ref (1000+q) (go+1) 0 (o.length+1)]:=by
       have:=qcz (xs:=cur.set q (go+1,o++ [(e+1,lt)])) (k:=1000) (i:=q) (by rw [List.length_set];exact lq)
       simpa using this
      have hsetE:(ir eI E').set q [IV.p (.sc (.int .i64 (e+1)))]=ir eI (E'.set q (e+1)):=by simp only [ir,List.map_set];rfl
      have hgE:(ir eI (E'.set q (e+1)))[q]? =some [.p (.sc (.int .i64 (e+1)))]:=by
       simp [ir,lE,eI]
      clear hcs hrs hcq hcur
      ((try refine zW ?_);(try with_reducible exact True.intro))
      (try simp (maxSteps:=2000000) (disch:=omega) only [go_sem,simprocAttr,zD,zE,eII,hz])
      (refine qaf 200 ?_;refine zW ?_;refine callA_of (qdG N n to ls (by omega)) zB ?_;((try refine zW ?_);(try with_reducible exact True.intro)))
      (try simp (maxSteps:=2000000) (disch:=omega) only [go_sem,simprocAttr,zD,zE,hq1,eI,he2,h500,heI,List.drop_succ_cons,List.drop_nil,List.drop_zero,List.length_cons,List.length_nil,hsetE])
      (refine walk_trim [3,5,6,11,13,14,40,65,66,67] trivial zL ?_;refine zW ?_;refine irun_walk (id:=18) (n:=200) [none,none,none,none,none,none,none,none,none,none,none,none,none,none,none,none,some [0,1,2,3,4,5,6,7],some [0,1,2],none,some []] qan (by kernel_rfl) ?_)
      (try simp (maxSteps:=2000000) (disch:=omega) only [go_sem,simprocAttr,zD,zE,hrg,hlk0,hset,hgE])
      refine⟨by omega,(i+1,cur.set q (go+1,o++ [(e+1,lt)]),E'.set q (e+1)), [],⟨li,by simp only [List.length_set];exact i2,by simp only [List.length_set];exact i3,i4,fun y hy=>?_,fun y hy=>?_⟩,by simp only;omega,?_⟩
      ·rcases List.mem_or_eq_of_mem_set hy with h | h
       ·have:=i5 y h;simp only;omega
       ·rw [h];simp only [List.length_append,List.length_cons,List.length_nil];omega
      ·rcases List.mem_or_eq_of_mem_set hy with h | h
       ·exact i6 y h
       ·omega
      clear hgs hset hrg i5 i6 i4 hsetE hgE
      have f0: ¬1000+q=3000000:=by omega
      have f1: ¬1000+q=3000001:=by omega
      have f3: ¬1000+q=3:=by omega
      have f4: ¬1000+q=2:=by omega
      have f5: ¬1000+q=7:=by omega
      have f6: ¬1000+q=0:=by omega
      have f7: ¬1000+q=6:=by omega
      have f8: ¬1000+q=5:=by omega
      have f0': ¬3000000=1000+q:=by omega
      have f1': ¬3000001=1000+q:=by omega
      have f3': ¬3=1000+q:=by omega
      have f4': ¬2=1000+q:=by omega
      have f5': ¬7=1000+q:=by omega
      have f6': ¬0=1000+q:=by omega
      have f7': ¬6=1000+q:=by omega
      have f8': ¬5=1000+q:=by omega
      constructor
      case blks=>
       (try simp (maxSteps:=2000000) only [go_sem,simprocAttr,f0,f1,f3,f4,f5,f6,f7,f8])
       refine⟨qbh (by rw [List.length_set];omega),qe5 (.inr (by omega)) ?_ fun j hj hne=>?_⟩
       ·(try simp (maxSteps:=2000000) only [go_sem,simprocAttr,f7',f0',f1',f3',f4',f5',f6',f8'])
        rw [ir_snoc];rfl
       ·have e1: ¬3000000=1000+j:=by omega
        have e2: ¬3000001=1000+j:=by omega
        have e3: ¬3=1000+j:=by omega
        have e4: ¬2=1000+j:=by omega
        have e5: ¬7=1000+j:=by omega
        have e6: ¬0=1000+j:=by omega
        have e7: ¬6=1000+j:=by omega
        have e8: ¬5=1000+j:=by omega
        have e9: ¬q=j:=fun e=>hne e.symm
        have e10: ¬1000+q=1000+j:=by omega
        have:=qaW (sz:=2) (e:=eII) (k:=1000) (r:= []) hj
        rw [List.append_nil] at this
        (try simp (maxSteps:=2000000) only [go_sem,simprocAttr,e1,e2,e3,e4,e5,e6,e7,e8,e9,e10,this])
      all_goals((try refine zW ?_);(try with_reducible exact True.intro))
    ·obtain rfl:i=sends.length:=by omega
     rw [List.drop_length,pkC] at i4
     rw [←i4] at hres
     simp only at hres
     subst hres
     clear i4
     have hcl:(cur.map (·.2)).length=L.length:=by rw [List.length_map];omega
     try refine zO ?_
     refine qc8 200 (List.range' 1000 L.length) ⟨113, [(3, .ptr 0 0 0 0),(5, .ptr 2 0 0 0),(6, .ptr 3 0 0 0),(11, .ptr 3000000 0 0 0)], [],3000001,
      [(3000000, .arr 3 0 [[.ref 5 0 0 S.length, .ref 6 0 0 L.length, .ref 7 0 0 E.length]]),(5, .arr 1 0 (ir eI S')),(6, .arr 1 0 (ir eMs (cur.map (·.2)))),(7, .arr 1 0 (ir eI E')),(3, .arr 3 0 [[nil0,nil0,nil0]]),(2, .arr 5 0 [[sci .i64 kind,sci .i64 n,sci .i64 k,sci .i64 link,sci .i64 seq]]),(0, .arr 4 0 [[sci .i64 N,lII ls, .p (.imm 2 (pr eNd T)),scb ff]])]⟩ trivial ?_ ?_
     ·constructor
      case gone=>
       refine qjV (fun b hb=>Nat.zero_le _) fun p hp hb=>?_
       rw [List.mem_range'_1] at hb
       simp only [List.mem_cons,List.not_mem_nil,or_false] at hp
       rcases hp with rfl | rfl | rfl | rfl | rfl | rfl | rfl<;>(simp only at hb;omega)
      case blks=>
       try refine zW ?_
       refine qgU (e:=eII) (sz:=2) (fun l=>rfl) fun j hj=>⟨by rw [List.mem_range'_1];omega,?_⟩
       have e1: ¬3000000=1000+j:=by omega
       have e3: ¬3=1000+j:=by omega
       have e4: ¬2=1000+j:=by omega
       have e5: ¬7=1000+j:=by omega
       have e6: ¬0=1000+j:=by omega
       have e7: ¬6=1000+j:=by omega
       have e8: ¬5=1000+j:=by omega
       have:=qaW (sz:=2) (e:=eII) (k:=1000) (r:= []) hj
       rw [List.append_nil] at this
       (try simp (maxSteps:=2000000) only [go_sem,simprocAttr,e1,e3,e4,e5,e6,e7,e8,this])
      all_goals((try refine zW ?_);(try with_reducible exact True.intro))
     have htk:(ir eMs (cur.map (·.2))).take L.length=ir eMs (cur.map (·.2)):=List.take_of_length_le (by simp [ir];omega)
     have htS:S'.take S.length=S':=List.take_of_length_le (by omega)
     have htE:E'.take E.length=E':=List.take_of_length_le (by omega)
     generalize cur.map (·.2)=outv at *
     clear hrl i2
     (try simp (maxSteps:=2000000) (disch:=omega) only [go_sem,simprocAttr,zD,zE,htk,htS,htE])
theorem qf9 (l:List (Int × Int)) (g i:Nat) (hi:i < l.length) (hn:l.length≤1000000):
  PG Tryz.prog 175 [.ref 0 g 0 l.length,sci .i64 i,sci .i64 ((i:Int)+1)] [.arr 2 g (ir eII l)] 0 (.ref 0 g 0 (l.length - 1)) [(0, .arr 2 g (ir eII (l.take i++l.drop (i+1)++ [(0,0)])))]:=by
 have hrl:(ir eII l).length=l.length:=by simp [ir]
 have hsub:l.length - (i+1)=l.length - 1 - i:=by omega
 refine qba 200 (fn:=Tryz.f175) Tryz.func175 rfl (by simp [Tryz.ntmps175]) 1 rfl zC zC zC zC zC fun hs=>?_
 ((try refine zW ?_);(try with_reducible exact True.intro))
 (try simp (maxSteps:=2000000) (disch:=omega) only [go_sem,simprocAttr,zD,zE,hrl])
 refine qmQ 200 (e:=67) (b:=0) (g:=g) (off:=0) (len:=l.length) (lo:=i) (h:=i+1) (mx:=l.length) (sz:=2) (ki:= .i64) (kj:= .i64) (km:= .i64) (rows:=ir eII l) (by kernel_rfl) (by kernel_rfl)
  (by((try refine zW ?_);(try with_reducible exact True.intro))) (by((try refine zW ?_);(try with_reducible exact True.intro))) (by((try refine zW ?_);(try with_reducible exact True.intro))) (by((try refine zW ?_);(try with_reducible exact True.intro))) (by((try refine zW ?_);(try with_reducible exact True.intro))) (by omega) (by omega) (by omega) (by omega) rfl ?_
 have hne:((i:Int)==(i:Int)+1)=false:=beq_eq_false_iff_ne.2 (by omega)
 (try simp (maxSteps:=2000000) (disch:=omega) only [go_sem,simprocAttr,zD,zE,hne])
 (refine walk_trim [0,1,2,7] trivial zL ?_;((try refine zW ?_);(try with_reducible exact True.intro)))
 refine qg5 (id:=5) (n:=200) [none,none,none,none,none,none,some [],none] qan (by kernel_rfl) (qgP 6 ?_)
 simp only [List.take_succ_cons,List.take_zero,List.drop_succ_cons,List.drop_zero]
 have tk:((i:Int)+1).toNat=i+1:=rfl
 (try simp (maxSteps:=2000000) (disch:=omega) only [go_sem,simprocAttr,zD,zE,tk])
 have hdt:(ir eII l).drop (i+1)=ir eII (l.drop (i+1)):=by simp [ir]
 have hdl:(l.drop (i+1)).length=l.length - (i+1):=List.length_drop
 have hdd:(l.drop (i+1)).take (l.length - (i+1))=l.drop (i+1):=List.take_of_length_le (by omega)
 have hil:(ir eII (l.drop (i+1))).length=l.length - (i+1):=by simp [ir]
 refine ql1 (e:=67) (sz:=2) (by_:=16) (zz:= [.int .i64 0, .int .i64 0]) (b:=0) (g:=g) (off:=0) (len:=i) (zx:= .ref 0 g (i+1) (l.length - (i+1))) (rows:=ir eII l) (rx:=ir eII (l.drop (i+1))) (Rx:= [(0, .arr 2 g (ir eII l))])
  ?_ ?_ ?_ ?_ ?_ ?_ (by rw [hil,hrl];omega) (by rw [hrl];omega) ?_ ?_
 ·rfl
 ·((try refine zW ?_);(try with_reducible exact True.intro))
 ·((try refine zW ?_);(try with_reducible exact True.intro))
 ·(try simp (maxSteps:=2000000) only [go_sem,simprocAttr,qdI])
 ·((try refine zW ?_);(try with_reducible exact True.intro))
 ·simp only [iapp,qb1]
  (try simp (maxSteps:=2000000) only [go_sem,simprocAttr,hdd])
 ·rfl
 have hm:i+(l.length - (i+1))=l.length - 1:=by omega
 have hlast:l.drop (l.length - 1)= [l[l.length - 1]'(by omega)]:=by
  have h:=List.drop_eq_getElem_cons (l:=l) (i:=l.length - 1) (by omega)
  rw [show l.length - 1+1=l.length by omega,List.drop_length] at h
  exact h
 (try simp (maxSteps:=2000000) only [go_sem,simprocAttr,hil,hm,hlast])
 obtain⟨y,hy⟩: ∃y,y=l[l.length - 1]'(by omega):=⟨_,rfl⟩
 rw [←hy]
 obtain⟨R,hR⟩: ∃R,R=l.take i++l.drop (i+1):=⟨_,rfl⟩
 have hRl:R.length=l.length - 1:=by rw [hR,List.length_append,List.length_take,List.length_drop];omega
 rw [←hR]
 have hRy:(ir eII (R++ [y])).length=l.length:=by simp [ir];omega
 have hc1:((l.length - 1:Nat):Int)=(l.length:Int) - 1:=by omega
 refine dvc_sound _ _ _ ?_
 try refine zO ?_
 refine qkR 200 (e:=67) (b:=0) (g:=g) (off:=0) (len:=l.length - 1) (lo:=l.length - 1) (h:=l.length) (sz:=2) (ki:= .i64) (kj:= .i64) (rows:=ir eII (R++ [y])) (by kernel_rfl) (by kernel_rfl)
  (by((try refine zW ?_);(try with_reducible exact True.intro))) (by((try refine zW ?_);(try with_reducible exact True.intro))) (by((try refine zW ?_);(try with_reducible exact True.intro))) (by((try refine zW ?_);(try with_reducible exact True.intro))) (by omega) (by omega) (by rw [hRy];omega) rfl ?_
 have hz1:0+(l.length - 1)=l.length - 1:=Nat.zero_add _
 have hz2:l.length - (l.length - 1)=1:=by omega
 have hz3:(R++ [y]).take (l.length - 1)=R:=by rw [←hRl,List.take_left]
 have hz4:(R++ [y]).drop (l.length - 1+1)= []:=List.drop_eq_nil_of_le (by simp;omega)
 (try simp (maxSteps:=2000000) (disch:=omega) only [go_sem,simprocAttr,zD,zE,hz1,hz2,qea])
 rw [hz3,hz4]
 have er:ir eII R++ [[IV.p (.sc (.int .i64 0)), .p (.sc (.int .i64 0))]]++ir eII []=ir eII (R++ [(0,0)]):=by simp [ir,eII]
 rw [er]
 exact qaw _
theorem qlB {A:List (List IV)} {m:Nat} {r x:List IV} {i:Nat} (h:A.length=i):(A++List.replicate (m+1) r).set i x=A++ [x]++List.replicate m r:=by
 subst h
 rw [List.set_append_right _ _ (Nat.le_refl _),Nat.sub_self,List.replicate_succ,List.set_cons_zero,List.append_assoc];rfl
theorem qlA {A:List (List IV)} {m:Nat} {r:List IV} {i:Nat} (h:A.length=i) (hm:0 < m):(A++List.replicate m r)[i]? =some r:=by
 subst h
 rw [List.getElem?_append_right (Nat.le_refl _),Nat.sub_self,List.getElem?_replicate,if_pos hm]
theorem qpz (L:List (List (Int × Int))) (i0 k n:Nat):rnRw (rsel 0 [2,3,4,6]) (qag L i0 3 k n)=qag L i0 6 k n:=by
 unfold qag
 simp only [go_sem]
 rfl
theorem qpu (S:List Int) (L:List (List (Int × Int))) (E:List Int) (i0:Nat) (h0:i0 < L.length) (hS:S.length≤1000000) (hL:L.length≤1000000) (hE:E.length≤1000000) (hl: ∀x∈L,x.length≤1000000):
  PG Tryz.prog 172 [lCf S L E] [] 4 (.agg [.ref 0 0 0 S.length, .ref 1 0 0 L.length, .ref 2 0 0 E.length])
   [(0, .arr 1 0 (ir eI S)),(1, .arr 1 0 (qag L i0 3 L[i0].length L.length)),(2, .arr 1 0 (ir eI E)),(3, .arr 2 0 (ir eII L[i0]))]:=by
 have hmin: ∀i,i≤L.length→(L.take i).length=i:=fun i hi=>by rw [List.length_take];omega
 refine qba 200 (fn:=Tryz.f172) Tryz.func172 rfl (by simp [Tryz.ntmps172]) 0 rfl zC zC zC zC zC fun hs=>?_
 try refine zW ?_
 (refine walk_trim [1,2,40] trivial zL ?_;refine zW ?_;refine irun_walk (id:=1) (n:=200) [none,none,none,some [4,5,6,7,8,9,10,11,13],none,none,none,some [0,1,2,3,8,9,10,11,13],none,none,none,some [0,1,2,3,4,5,6,7,13],none,some [0,1,2,3,4,5,6,7,8,9,10,11,12],some []] qan (by kernel_rfl) ?_)
 try refine zO ?_
 (refine walk_trim [2,3,30,31,32,40] trivial zL ?_;((try refine zW ?_);(try with_reducible exact True.intro)))
 refine qal 200 200 (fun i:Nat × Bool=>i.1≤L.length∧(i.2=true↔i0 < i.1))
  (fun i=>match i.2 with
   | false=>⟨45, [(2, .ptr 1 0 0 0),(3, .ptr 5 0 0 0),(30,lMs L),(31,sci .i64 L.length),(32,sci .i64 i.1)], [],6,
     [(2, .arr 1 0 (ir eI S)),(3, .arr 1 0 (ir eMs (L.take i.1)++List.replicate (L.length - i.1) [nil0])),(4, .arr 1 0 (ir eI E)),(5, .arr 3 0 [[.ref 2 0 0 S.length, .ref 3 0 0 L.length, .ref 4 0 0 E.length]]),(1, .arr 3 0 [[nil0,nil0,nil0]])]⟩
   | true=>⟨45, [(2, .ptr 1 0 0 0),(3, .ptr 5 0 0 0),(30,lMs L),(31,sci .i64 L.length),(32,sci .i64 i.1)], [],7,
     [(2, .arr 1 0 (ir eI S)),(3, .arr 1 0 (qag L i0 6 L[i0].length i.1++List.replicate (L.length - i.1) [nil0])),(4, .arr 1 0 (ir eI E)),(5, .arr 3 0 [[.ref 2 0 0 S.length, .ref 3 0 0 L.length, .ref 4 0 0 E.length]]),(6, .arr 2 0 (ir eII L[i0])),(1, .arr 3 0 [[nil0,nil0,nil0]])]⟩) (fun i=>L.length - i.1) (0,false) [] ?_ ?_ ?_
 ·simp
 ·constructor<;>(try simp (maxSteps:=2000000) (disch:=omega) only [go_sem,simprocAttr,zD,zE,Int.natCast_zero,List.take_zero,Nat.sub_zero])
 ·rintro⟨i,ph⟩ ⟨h1,h3⟩
  simp only at h1 h3
  cases ph
  ·have hle:i≤i0:=by
    rcases Nat.lt_or_ge i0 i with q | q
    ·have:=h3.2 q;cases this
    ·exact q
   have li:i < L.length:=by omega
   have e:L.take (i+1)=L.take i++ [L[i]]:=List.take_succ_eq_append_getElem li
   have hlen:(ir eMs (L.take i)).length=i:=by simp only [ir,List.length_map];exact hmin i h1
   have hget:=qlA (A:=ir eMs (L.take i)) (m:=L.length - i) (r:= [nil0]) hlen (by omega)
   have hput:=fun x=>qlB (A:=ir eMs (L.take i)) (m:=L.length - (i+1)) (r:= [nil0]) (x:=x) hlen
   rw [show L.length - (i+1)+1=L.length - i by omega] at hput
   have hli:=hl _ (List.getElem_mem li)
   ((try refine zW ?_);(try with_reducible exact True.intro))
   (try simp (maxSteps:=2000000) (disch:=omega) only [go_sem,simprocAttr,zD,zE,eMs])
   (refine walk_trim [2,3,4,5,30,31,32] trivial zL ?_;refine zW ?_;refine irun_walk (id:=7) (n:=200) [none,none,none,none,some [0,1,2],none,some []] qan (by kernel_rfl) ?_)
   (try simp (maxSteps:=2000000) (disch:=omega) only [go_sem,simprocAttr,zD,zE,eMs])
   rcases Nat.lt_or_ge i i0 with hi | hi
   ·(refine at_dcall ?_;refine zW ?_;refine callA_of (qdS L[i] hli) zB ?_;((try refine zW ?_);(try with_reducible exact True.intro)))
    have hput2:(ir eMs (L.take i)++List.replicate (L.length - i) [nil0]).set i [IV.p (.imm 2 (pr eII L[i]))]=ir eMs (L.take (i+1))++List.replicate (L.length - (i+1)) [nil0]:=by rw [hput,e,ir_snoc];rfl
    (try simp (maxSteps:=2000000) (disch:=omega) only [go_sem,simprocAttr,zD,zE,hget,hput2])
    refine⟨(i+1,false), [],⟨li,⟨(fun q=>by cases q),(fun q=>by simp only at q;omega)⟩⟩,by simp only;omega,?_⟩
    constructor<;>((try refine zO ?_);(try with_reducible exact True.intro))
   ·obtain rfl:i=i0:=by omega
    (refine qes ?_;refine zW ?_;refine qaB [] (qeo L[i] hli) zU ?_;((try refine zW ?_);(try with_reducible exact True.intro)))
    have hput2:(ir eMs (L.take i)++List.replicate (L.length - i) [nil0]).set i [IV.ref 6 0 0 L[i].length]=qag L i 6 L[i].length (i+1)++List.replicate (L.length - (i+1)) [nil0]:=by
     rw [hput]
     congr 1
     unfold qag
     rw [List.drop_eq_nil_of_le (by rw [List.length_take];omega)];rfl
    (try simp (maxSteps:=2000000) (disch:=omega) only [go_sem,simprocAttr,zD,zE,hget,hput2])
    refine⟨(i+1,true), [],⟨li,by simp⟩,by simp only;omega,?_⟩
    constructor<;>((try refine zO ?_);(try with_reducible exact True.intro))
  ·have hlt:i0 < i:=h3.1 rfl
   try refine zW ?_
   by_cases li:i < L.length
   ·have hlen:(qag L i0 6 L[i0].length i).length=i:=qhp hlt h1
    have hget:=qlA (A:=qag L i0 6 L[i0].length i) (m:=L.length - i) (r:= [nil0]) hlen (by omega)
    have hput:=fun x=>qlB (A:=qag L i0 6 L[i0].length i) (m:=L.length - (i+1)) (r:= [nil0]) (x:=x) hlen
    rw [show L.length - (i+1)+1=L.length - i by omega] at hput
    have hli:=hl _ (List.getElem_mem li)
    have hput2:(qag L i0 6 L[i0].length i++List.replicate (L.length - i) [nil0]).set i [IV.p (.imm 2 (pr eII L[i]))]=qag L i0 6 L[i0].length (i+1)++List.replicate (L.length - (i+1)) [nil0]:=by rw [hput,qgk hlt li];rfl
    (try simp (maxSteps:=2000000) (disch:=omega) only [go_sem,simprocAttr,zD,zE,eMs])
    (refine walk_trim [2,3,4,5,30,31,32] trivial zL ?_;refine zW ?_;refine irun_walk (id:=7) (n:=200) [none,none,none,none,some [0,1,2],none,some []] qan (by kernel_rfl) ?_)
    (try simp (maxSteps:=2000000) (disch:=omega) only [go_sem,simprocAttr,zD,zE,eMs])
    (refine at_dcall ?_;refine zW ?_;refine callA_of (qdS L[i] hli) zB ?_;((try refine zW ?_);(try with_reducible exact True.intro)))
    (try simp (maxSteps:=2000000) (disch:=omega) only [go_sem,simprocAttr,zD,zE,hget,hput2])
    refine⟨(i+1,true), [],⟨li,by simp;omega⟩,by simp only;omega,?_⟩
    constructor<;>((try refine zO ?_);(try with_reducible exact True.intro))
   ·obtain rfl:i=L.length:=by omega
    (try simp (maxSteps:=2000000) (disch:=omega) only [go_sem,simprocAttr,zD,zE,Nat.sub_self,List.replicate_zero,List.append_nil])
    refine⟨[2,3,4,6],⟨rfl,by simp [qao,qao.nin]⟩,⟨rfl,rfl,rfl⟩,⟨rfl,rfl,qaw _⟩,⟨rfl,rfl,?_⟩,⟨rfl,rfl,qaw _⟩,rfl,rfl,qaw _⟩
    rw [qpz]
    exact qaw _
end Go.Proofs.NO
