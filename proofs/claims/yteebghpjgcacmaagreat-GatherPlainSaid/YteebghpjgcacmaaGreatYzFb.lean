/- Facts that the proofs of this claim lean on. -/
import Derived.Test.YteebghpjgcacmaaGreatYzCq
import Derived.Test.YteebghpjgcacmaaGreatIdIo
set_option linter.unusedSimpArgs false
set_option linter.unusedVariables false
/- Lists of numbers of their own, all of them held. -/
namespace Go.Proofs.GY
open Go Go.Idl Go.Proofs
set_option maxHeartbeats 20000000
set_option maxRecDepth 100000
theorem qm9 (l:List (List Int)) (hl: ∀x∈l,x.length≤1000000) (hn:l.length≤1000000) {c:Nat} (hc:c=1+l.length):
  PG Tryz.prog 116 [sci .i64 l.length, .clo (.func 117) [] [.ptr 0 0 0 0]] [cL l] c (.ref 1 l.length 0 l.length)
   ((1, .arr 1 l.length (qaq 2 (qai l)))::(qao 2 (famB 1 eI (qai l))++ [(0,cL [])])):=by
 refine qa1 200 (fn:=Tryz.f116) Tryz.func116 rfl (by simp [Tryz.ntmps116]) 1 rfl ?_ ?_ ?_ ?_ ?_ fun hs=>?_
 ·((try refine zW ?_);(try with_reducible exact True.intro))
 ·((try refine zW ?_);(try with_reducible exact True.intro))
 ·refine⟨by show 1 < _;omega,?_,qhB.2 ⟨qdO (by rw [qa3];omega),?_⟩⟩
  ·try refine zW ?_
   exact qbn (by rw [qa3];omega)
  ·try refine zW ?_
   omega
 ·refine qf4 fun i h1 h2=>?_
  rcases Nat.lt_or_ge i 2 with h | h
  ·obtain rfl:i=1:=by omega
   rfl
  ·obtain⟨j,rfl⟩: ∃j,i=2+j:=⟨i - 2,by omega⟩
   show(if 1=2+j then _ else Idl.look _ _:Option IBlk).isSome=true
   rw [if_neg (by omega),qa6 (by rw [qa3];omega)];rfl
 ·((try refine zW ?_);(try with_reducible exact True.intro));omega
 try refine zW ?_
 refine walk_own 5 1 trivial rfl (.inr rfl) ?_
 (refine walk_trim [1,5,6,7] trivial zL ?_;((try refine zW ?_);(try with_reducible exact True.intro)))
 refine qad 200 200 (fun i:Nat=>i≤l.length)
  (fun i=>⟨16, [(1, .clo (.func 117) [] [.ptr 0 0 0 0]),(5, .ref 1 i 0 i),(6,sci .i64 l.length),(7,sci .i64 i)], [],2+i,
   (1, .arr 1 i (qaq 2 (qai (l.take i))))::(qao 2 (famB 1 eI (qai (l.take i)))++ [(0,cL (l.drop i))])⟩) (fun i=>l.length - i) 0 [] ?_ ?_ ?_
 ·simp
 ·constructor<;>(try simp (disch:=omega) only [go_sem,simprocAttr,zD,zE,Int.natCast_zero,List.take_zero,qai,List.map_nil,qaq,famB,qao,List.nil_append,List.drop_zero])
 ·intro i h1
  have htl:(qai (l.take i)).length=i:=by rw [qa3,List.length_take];omega
  have hrl:(qaq 2 (qai (l.take i))).length=i:=by rw [qbH,htl]
  have hrt:(qaq 2 (qai (l.take i))).take i=qaq 2 (qai (l.take i)):=List.take_of_length_le (by omega)
  try refine zW ?_
  by_cases hl':i < l.length
  ·have e:l.drop i=l[i]::l.drop (i+1):=List.drop_eq_getElem_cons hl'
   have e2:qai (l.take (i+1))=qai (l.take i)++ [(0,l[i])]:=by rw [List.take_succ_eq_append_getElem hl',qgY]
   (try simp (disch:=omega) only [go_sem,simprocAttr,zD,zE,e])
   (refine at_g 200 ?_;refine zW ?_;refine qav [0] (qop l[i] (l.drop (i+1)) (hl _ (List.getElem_mem hl')) (by rw [List.length_drop];omega)) (by simp (disch:=omega) only [go_sem,simprocAttr,zD,zE,qa5,htl]) ?_;((try refine zW ?_);(try with_reducible exact True.intro)))
   (try simp (disch:=omega) only [go_sem,simprocAttr,zD,zE,qa5,htl,hrl,hrt])
   have e3:qaq 2 (qai (l.take (i+1)))=qaq 2 (qai (l.take i))++ [[.ref (2+i) 0 0 l[i].length]]:=by rw [e2,qfC,htl]
   have hfl:(famB 1 eI (qai (l.take (i+1)))).length=i+1:=by rw [qcR,e2,List.length_append,htl];rfl
   refine⟨i+1, [],hl',by omega,?_⟩
   rw [e3]
   constructor
   case blks=>
    (try simp (disch:=omega) only [go_sem,simprocAttr,zD,zE,qa5,htl])
    refine⟨⟨by omega,qbn (by rw [htl];omega)⟩,?_⟩
    refine qgW (fun j hj=>?_) (.inr ⟨?_,qhz⟩) ?_
    ·rw [hfl] at hj
     have hg:(famB 1 eI (qai (l.take (i+1))))[j]'(by rw [hfl];exact hj)= .arr 1 0 (ir eI l[j]):=by
      simp [famB,qai]
     rw [hg]
     refine⟨_,?_,qo1 _⟩
     by_cases hji:j=i
     ·subst hji
      ((try refine zO ?_);(try with_reducible exact True.intro))
     ·have hj2:j < (qai (l.take i)).length:=by omega
      have hx:(qai (l.take i))[j]=(0,l[j]):=by simp [qai]
      try refine zO ?_
      rw [qa6 hj2,hx]
    ·rw [hfl];show 2+(i+1)≤2+(i+1);exact Nat.le_refl _
    ·(try simp (disch:=omega) only [go_sem,simprocAttr,zD,zE,qa5,htl])
     omega
   case others=>
    try refine zO ?_
    refine⟨.inl (by omega), .inl (by omega),⟨_,List.mem_append_right _ (List.mem_singleton.2 rfl)⟩,qoj (.inl (by decide)) ⟨.inr ⟨_,List.mem_cons_of_mem _ (List.mem_append_right _ (List.mem_singleton.2 rfl))⟩,trivial⟩⟩
   all_goals(((try refine zO ?_);(try with_reducible exact True.intro));try omega)
  ·obtain rfl:i=l.length:=by omega
   have e:l.drop l.length= []:=List.drop_length
   have e2:l.take l.length=l:=List.take_length
   rw [e,e2]
   rw [e2] at htl hrl hrt
   try refine zO ?_
   refine qnG (.inr rfl) (by omega) (by((try refine zO ?_);(try with_reducible exact True.intro))) (by((try refine zO ?_);(try with_reducible exact True.intro));omega) ⟨by show 1 < _;omega,?_,qhB.2 ⟨qdO (by rw [htl];omega),?_⟩⟩ ?_ ?_
   ·try refine zW ?_
    exact qbn (by rw [htl];omega)
   ·try refine zW ?_
    omega
   ·refine⟨by((try refine zO ?_);(try with_reducible exact True.intro)),qlF.2 ⟨qfO fun i hi=>?_,?_⟩⟩
    ·(try simp (disch:=omega) only [go_sem,simprocAttr,zD,zE,qlW])
    ·(try simp (disch:=omega) only [go_sem,simprocAttr,zD,zE,qa5,htl])
   ·(try simp (disch:=omega) only [go_sem,simprocAttr,zD,zE,List.map_append])
    refine qnO (by decide) ?_
    (try simp (disch:=omega) only [go_sem,simprocAttr,zD,zE,List.mem_append])
theorem qhk (l:List (List Int)) {c:Nat} (hc:c=1+l.length) {g n:Nat}:hasAll ((0,IBlk.arr 1 g (qaq n (qai l)))::qao 1 (famB 1 eI (qai l))) 0 c:=by
 refine qf4 fun i h1 h2=>?_
 rcases Nat.lt_or_ge i 1 with h | h
 ·obtain rfl:i=0:=by omega
  rfl
 ·obtain⟨j,rfl⟩: ∃j,i=1+j:=⟨i - 1,by omega⟩
  show(if 0=1+j then _ else Idl.look _ _:Option IBlk).isSome=true
  rw [if_neg (by omega)]
  have:=qa6 (sz:=1) (e:=eI) (k:=1) (r:= []) (xs:=qai l) (i:=j) (by rw [qa3];omega)
  rw [List.append_nil] at this
  rw [this];rfl
theorem qdq (l:List (List Int)) {c n g:Nat} (hc:c=1+l.length) (hn:0+c=n):qbf n ((0,IBlk.arr 1 g (qaq 1 (qai l)))::qao 1 (famB 1 eI (qai l))):=
 ⟨by show 0 < _;omega,by rw [qcA];exact qbn (by rw [qa3];omega),qdO (by rw [qa3];omega)⟩
theorem qpx (l:List (List Int)) (hl: ∀x∈l,x.length≤1000000) (hn:l.length≤1000000) {c:Nat} (hc:c=1+l.length):
  PG Tryz.prog 89 [lLs l] [] c (.ref 0 l.length 0 l.length) ((0, .arr 1 l.length (qaq 1 (qai l)))::qao 1 (famB 1 eI (qai l))):=by
 refine qa1 200 (fn:=Tryz.f89) Tryz.func89 rfl (by simp [Tryz.ntmps89]) 0 rfl (by((try refine zW ?_);(try with_reducible exact True.intro))) (by((try refine zW ?_);(try with_reducible exact True.intro))) (qdq l hc rfl) (qhk l hc) (by((try refine zW ?_);(try with_reducible exact True.intro));omega) fun hs=>?_
 try refine zW ?_
 (refine at_g 200 ?_;refine zW ?_;refine qav [0] (qm9 l hl hn hc) (by simp (disch:=omega) only [go_sem,simprocAttr,zD,zE,qa3]) ?_;((try refine zW ?_);(try with_reducible exact True.intro)))
 refine qdM 1 (.inr rfl) (Nat.zero_le _) (by((try refine zW ?_);(try with_reducible exact True.intro))) (by((try refine zW ?_);(try with_reducible exact True.intro));omega) (qdq l hc rfl) ?_ ?_
 ·try refine zO ?_
  refine qda fun i hi=>?_
  (try simp (disch:=omega) only [go_sem,simprocAttr,zD,zE,qa6])
 ·((try refine zW ?_);(try with_reducible exact True.intro))
theorem fam_ne {k b0 c:Nat} {L:List IBlk} {x:IBlk} (hk:c < k) (hb: ¬b0=c): ∀b∈List.map (fun x:Nat × IBlk=>x.fst) ((qao k L).reverse++ [(b0,x)]),¬b=c:=by
 intro b h
 simp only [List.map_append,List.map_reverse,List.mem_append,List.mem_reverse,List.map_cons,List.map_nil,List.mem_singleton] at h
 rcases h with h | rfl
 ·obtain⟨p,hp,rfl⟩:=List.mem_map.1 h
  obtain⟨i,_,e,_⟩:=qfW hp
  omega
 ·exact hb
theorem qoK (p:Hs) (h:gHs p) {c:Nat} (hc:c=1+p.out.length):PG Tryz.prog 46 [qe5 p] [] c
  (.agg [sci .i64 p.node,sci .i64 p.state,sci .i64 p.steps,nil0,lMs p.inn, .ref 0 p.out.length 0 p.out.length])
  ((0, .arr 1 p.out.length (qaq 1 (qai p.out)))::qao 1 (famB 1 eI (qai p.out))):=by
 obtain⟨h2,h3,h4,h5⟩:=h
 refine qa1 200 (fn:=Tryz.f46) Tryz.func46 rfl (by simp [Tryz.ntmps46]) 0 rfl (by((try refine zW ?_);(try with_reducible exact True.intro))) (by((try refine zW ?_);(try with_reducible exact True.intro))) (qdq _ hc rfl) (qhk _ hc) (by((try refine zW ?_);(try with_reducible exact True.intro));omega) fun hs=>?_
 try refine zW ?_
 (refine walk_trim [1,2,68] trivial zL ?_;refine zW ?_;refine irun_walk (id:=1) (n:=200) [none,none,none,none,none,none,none,none,some [0,1,2,3,4,5,9,10,12,13],none,none,some [0,1,2,3,4,5,12,13],none,none,some [0,1,2,3,4,5],none,some []] qap (by kernel_rfl) ?_)
 try refine zW ?_
 (refine qfR ?_;refine zW ?_;refine callA_of (qd9) zB ?_;((try refine zW ?_);(try with_reducible exact True.intro)))
 try refine zW ?_
 (refine at_dcall ?_;refine zW ?_;refine callA_of (qjg _ h4 h2) zB ?_;((try refine zW ?_);(try with_reducible exact True.intro)))
 try refine zW ?_
 (refine qfe ?_;refine zW ?_;refine qav [] (qpx p.out h5 h3 hc) zU ?_;((try refine zW ?_);(try with_reducible exact True.intro)))
 (try simp (maxSteps:=2000000) (disch:=omega) only [go_sem,simprocAttr,zD,zE,qa5])
 refine⟨?_,?_⟩
 ·have hw: ∀b∈List.map (fun x:Nat × IBlk=>x.fst) ((qao 3 (famB 1 eI (qai p.out))).reverse++ [(2,IBlk.arr 1 p.out.length (qaq 3 (qai p.out)))]),¬b=0:=fam_ne (by decide) (by decide)
  generalize List.map (fun x:Nat × IBlk=>x.fst) ((qao 3 (famB 1 eI (qai p.out))).reverse++ [(2,IBlk.arr 1 p.out.length (qaq 3 (qai p.out)))])=w at hw ⊢
  cases w with
  | nil=>trivial
  | cons b w=>exact⟨hw b (by simp),fun a ha=>hw a (by simp [ha])⟩
 ·refine qdM 2 (.inr rfl) (Nat.zero_le _) (by((try refine zW ?_);(try with_reducible exact True.intro))) (by((try refine zW ?_);(try with_reducible exact True.intro));omega) (qdq _ hc rfl) ?_ ?_
  ·try refine zO ?_
   refine qda fun i hi=>?_
   (try simp (maxSteps:=2000000) (disch:=omega) only [go_sem,simprocAttr,zD,zE,qa6])
  ·((try refine zW ?_);(try with_reducible exact True.intro))
theorem qn6 (h:Hs) (hg:gHs h) {c:Nat} (hc:c=1+h.out.length):PG Tryz.prog 76 [lHs h] [] c
  (.agg [sci .i64 h.node,sci .i64 h.state,sci .i64 h.steps,lMs h.inn, .ref 0 h.out.length 0 h.out.length])
  ((0, .arr 1 h.out.length (qaq 1 (qai h.out)))::qao 1 (famB 1 eI (qai h.out))):=by
 refine qa1 200 (fn:=Tryz.f76) Tryz.func76 rfl (by simp [Tryz.ntmps76]) 0 rfl (by((try refine zW ?_);(try with_reducible exact True.intro))) (by((try refine zW ?_);(try with_reducible exact True.intro))) (qdq _ hc rfl) (qhk _ hc) (by((try refine zW ?_);(try with_reducible exact True.intro));omega) fun hs=>?_
 try refine zW ?_
 (refine qac 200 ?_;refine zW ?_;refine callA_of (qdZ h) zB ?_;((try refine zW ?_);(try with_reducible exact True.intro)))
 try refine zW ?_
 (refine qmT 200 ?_;refine zW ?_;refine qav [] (qoK h hg hc) zU ?_;((try refine zW ?_);(try with_reducible exact True.intro)))
 (try simp (maxSteps:=2000000) (disch:=omega) only [go_sem,simprocAttr,zD,zE,qa5])
 refine qdM 2 (.inr rfl) (Nat.zero_le _) (by((try refine zW ?_);(try with_reducible exact True.intro))) (by((try refine zW ?_);(try with_reducible exact True.intro));omega) (qdq _ hc rfl) ?_ ?_
 ·(try simp (maxSteps:=2000000) (disch:=omega) only [go_sem,simprocAttr,zD,zE,qa5])
  refine qda fun i hi=>?_
  have hi':=hi
  rw [qa3] at hi'
  (try simp (maxSteps:=2000000) (disch:=omega) only [go_sem,simprocAttr,zD,zE,qa6])
 ·((try refine zW ?_);(try with_reducible exact True.intro))
end Go.Proofs.GY
