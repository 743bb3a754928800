/- Facts that the proofs of this claim lean on. -/
import Derived.Test.YtfhhdgkhajkapaaGreatNzCq
import Derived.Test.YtfhhdgkhajkapaaGreatIdIo
set_option linter.unusedSimpArgs false
set_option linter.unusedVariables false
/- Lists of numbers of their own, all of them held. -/
namespace Go.Proofs.NO
open Go Go.Idl Go.Proofs
set_option maxHeartbeats 20000000
set_option maxRecDepth 100000
theorem qmg (l:List (List Int)) (hl: ∀x∈l,x.length≤1000000) (hn:l.length≤1000000) {c:Nat} (hc:c=1+l.length):
  PG Tryz.prog 285 [sci .i64 l.length, .clo (.func 286) [] [.ptr 0 0 0 0]] [cL l] c (.ref 1 l.length 0 l.length)
   ((1, .arr 1 l.length (qak 2 (qae l)))::(qai 2 (famB 1 eI (qae l))++ [(0,cL [])])):=by
 refine qba 200 (fn:=Tryz.f285) Tryz.func285 rfl (by simp [Tryz.ntmps285]) 1 rfl ?_ ?_ ?_ ?_ ?_ fun hs=>?_
 ·((try refine zW ?_);(try with_reducible exact True.intro))
 ·((try refine zW ?_);(try with_reducible exact True.intro))
 ·refine⟨by show 1 < _;omega,?_,qgJ.2 ⟨qde (by rw [qaT];omega),?_⟩⟩
  ·try refine zW ?_
   exact qbh (by rw [qaT];omega)
  ·try refine zW ?_
   omega
 ·refine qff fun i h1 h2=>?_
  rcases Nat.lt_or_ge i 2 with h | h
  ·obtain rfl:i=1:=by omega
   rfl
  ·obtain⟨j,rfl⟩: ∃j,i=2+j:=⟨i - 2,by omega⟩
   show(if 1=2+j then _ else Idl.look _ _:Option IBlk).isSome=true
   rw [if_neg (by omega),qaW (by rw [qaT];omega)];rfl
 ·((try refine zW ?_);(try with_reducible exact True.intro));omega
 try refine zW ?_
 refine qbk 5 1 trivial rfl (.inr rfl) ?_
 (refine walk_trim [1,5,6,7] trivial zL ?_;((try refine zW ?_);(try with_reducible exact True.intro)))
 refine qal 200 200 (fun i:Nat=>i≤l.length)
  (fun i=>⟨16, [(1, .clo (.func 286) [] [.ptr 0 0 0 0]),(5, .ref 1 i 0 i),(6,sci .i64 l.length),(7,sci .i64 i)], [],2+i,
   (1, .arr 1 i (qak 2 (qae (l.take i))))::(qai 2 (famB 1 eI (qae (l.take i)))++ [(0,cL (l.drop i))])⟩) (fun i=>l.length - i) 0 [] ?_ ?_ ?_
 ·simp
 ·constructor<;>(try simp (disch:=omega) only [go_sem,simprocAttr,zD,zE,Int.natCast_zero,List.take_zero,qae,List.map_nil,qak,famB,qai,List.nil_append,List.drop_zero])
 ·intro i h1
  have htl:(qae (l.take i)).length=i:=by rw [qaT,List.length_take];omega
  have hrl:(qak 2 (qae (l.take i))).length=i:=by rw [qbA,htl]
  have hrt:(qak 2 (qae (l.take i))).take i=qak 2 (qae (l.take i)):=List.take_of_length_le (by omega)
  try refine zW ?_
  by_cases hl':i < l.length
  ·have e:l.drop i=l[i]::l.drop (i+1):=List.drop_eq_getElem_cons hl'
   have e2:qae (l.take (i+1))=qae (l.take i)++ [(0,l[i])]:=by rw [List.take_succ_eq_append_getElem hl',qgf]
   (try simp (disch:=omega) only [go_sem,simprocAttr,zD,zE,e])
   (refine at_g 200 ?_;refine zW ?_;refine qaB [0] (qnj l[i] (l.drop (i+1)) (hl _ (List.getElem_mem hl')) (by rw [List.length_drop];omega)) (by simp (disch:=omega) only [go_sem,simprocAttr,zD,zE,qaV,htl]) ?_;((try refine zW ?_);(try with_reducible exact True.intro)))
   (try simp (disch:=omega) only [go_sem,simprocAttr,zD,zE,qaV,htl,hrl,hrt])
   have e3:qak 2 (qae (l.take (i+1)))=qak 2 (qae (l.take i))++ [[.ref (2+i) 0 0 l[i].length]]:=by rw [e2,qeK,htl]
   have hfl:(famB 1 eI (qae (l.take (i+1)))).length=i+1:=by rw [qcq,e2,List.length_append,htl];rfl
   refine⟨i+1, [],hl',by omega,?_⟩
   rw [e3]
   constructor
   case blks=>
    (try simp (disch:=omega) only [go_sem,simprocAttr,zD,zE,qaV,htl])
    refine⟨⟨by omega,qbh (by rw [htl];omega)⟩,?_⟩
    refine qgc (fun j hj=>?_) (.inr ⟨?_,qgH⟩) ?_
    ·rw [hfl] at hj
     have hg:(famB 1 eI (qae (l.take (i+1))))[j]'(by rw [hfl];exact hj)= .arr 1 0 (ir eI l[j]):=by
      simp [famB,qae]
     rw [hg]
     refine⟨_,?_,qnS _⟩
     by_cases hji:j=i
     ·subst hji
      ((try refine zO ?_);(try with_reducible exact True.intro))
     ·have hj2:j < (qae (l.take i)).length:=by omega
      have hx:(qae (l.take i))[j]=(0,l[j]):=by simp [qae]
      try refine zO ?_
      rw [qaW hj2,hx]
    ·rw [hfl];show 2+(i+1)≤2+(i+1);exact Nat.le_refl _
    ·(try simp (disch:=omega) only [go_sem,simprocAttr,zD,zE,qaV,htl])
     omega
   case others=>
    try refine zO ?_
    refine⟨.inl (by omega), .inl (by omega),⟨_,List.mem_append_right _ (List.mem_singleton.2 rfl)⟩,qnd (.inl (by decide)) ⟨.inr ⟨_,List.mem_cons_of_mem _ (List.mem_append_right _ (List.mem_singleton.2 rfl))⟩,trivial⟩⟩
   all_goals(((try refine zO ?_);(try with_reducible exact True.intro));try omega)
  ·obtain rfl:i=l.length:=by omega
   have e:l.drop l.length= []:=List.drop_length
   have e2:l.take l.length=l:=List.take_length
   rw [e,e2]
   rw [e2] at htl hrl hrt
   try refine zO ?_
   refine qmD (.inr rfl) (by omega) (by((try refine zO ?_);(try with_reducible exact True.intro))) (by((try refine zO ?_);(try with_reducible exact True.intro));omega) ⟨by show 1 < _;omega,?_,qgJ.2 ⟨qde (by rw [htl];omega),?_⟩⟩ ?_ ?_
   ·try refine zW ?_
    exact qbh (by rw [htl];omega)
   ·try refine zW ?_
    omega
   ·refine⟨by((try refine zO ?_);(try with_reducible exact True.intro)),qkP.2 ⟨qeW fun i hi=>?_,?_⟩⟩
    ·(try simp (disch:=omega) only [go_sem,simprocAttr,zD,zE,qk4])
    ·(try simp (disch:=omega) only [go_sem,simprocAttr,zD,zE,qaV,htl])
   ·(try simp (disch:=omega) only [go_sem,simprocAttr,zD,zE,List.map_append])
    refine qmO (by decide) ?_
    (try simp (disch:=omega) only [go_sem,simprocAttr,zD,zE,List.mem_append])
theorem qgA (l:List (List Int)) {c:Nat} (hc:c=1+l.length) {g n:Nat}:hasAll ((0,IBlk.arr 1 g (qak n (qae l)))::qai 1 (famB 1 eI (qae l))) 0 c:=by
 refine qff fun i h1 h2=>?_
 rcases Nat.lt_or_ge i 1 with h | h
 ·obtain rfl:i=0:=by omega
  rfl
 ·obtain⟨j,rfl⟩: ∃j,i=1+j:=⟨i - 1,by omega⟩
  show(if 0=1+j then _ else Idl.look _ _:Option IBlk).isSome=true
  rw [if_neg (by omega)]
  have:=qaW (sz:=1) (e:=eI) (k:=1) (r:= []) (xs:=qae l) (i:=j) (by rw [qaT];omega)
  rw [List.append_nil] at this
  rw [this];rfl
theorem qcV (l:List (List Int)) {c n g:Nat} (hc:c=1+l.length) (hn:0+c=n):qbs n ((0,IBlk.arr 1 g (qak 1 (qae l)))::qai 1 (famB 1 eI (qae l))):=
 ⟨by show 0 < _;omega,by rw [qcb];exact qbh (by rw [qaT];omega),qde (by rw [qaT];omega)⟩
theorem qon (l:List (List Int)) (hl: ∀x∈l,x.length≤1000000) (hn:l.length≤1000000) {c:Nat} (hc:c=1+l.length):
  PG Tryz.prog 228 [lLs l] [] c (.ref 0 l.length 0 l.length) ((0, .arr 1 l.length (qak 1 (qae l)))::qai 1 (famB 1 eI (qae l))):=by
 refine qba 200 (fn:=Tryz.f228) Tryz.func228 rfl (by simp [Tryz.ntmps228]) 0 rfl (by((try refine zW ?_);(try with_reducible exact True.intro))) (by((try refine zW ?_);(try with_reducible exact True.intro))) (qcV l hc rfl) (qgA l hc) (by((try refine zW ?_);(try with_reducible exact True.intro));omega) fun hs=>?_
 try refine zW ?_
 (refine at_g 200 ?_;refine zW ?_;refine qaB [0] (qmg l hl hn hc) (by simp (disch:=omega) only [go_sem,simprocAttr,zD,zE,qaT]) ?_;((try refine zW ?_);(try with_reducible exact True.intro)))
 refine qdd 1 (.inr rfl) (Nat.zero_le _) (by((try refine zW ?_);(try with_reducible exact True.intro))) (by((try refine zW ?_);(try with_reducible exact True.intro));omega) (qcV l hc rfl) ?_ ?_
 ·try refine zO ?_
  refine qcF fun i hi=>?_
  (try simp (disch:=omega) only [go_sem,simprocAttr,zD,zE,qaW])
 ·((try refine zW ?_);(try with_reducible exact True.intro))
theorem fam_ne {k b0 c:Nat} {L:List IBlk} {x:IBlk} (hk:c < k) (hb: ¬b0=c): ∀b∈List.map (fun x:Nat × IBlk=>x.fst) ((qai k L).reverse++ [(b0,x)]),¬b=c:=by
 intro b h
 simp only [List.map_append,List.map_reverse,List.mem_append,List.mem_reverse,List.map_cons,List.map_nil,List.mem_singleton] at h
 rcases h with h | rfl
 ·obtain⟨p,hp,rfl⟩:=List.mem_map.1 h
  obtain⟨i,_,e,_⟩:=qe4 hp
  omega
 ·exact hb
theorem qnG (p:Hs) (h:gHs p) {c:Nat} (hc:c=1+p.out.length):PG Tryz.prog 170 [qhu p] [] c
  (.agg [sci .i64 p.node,sci .i64 p.state,sci .i64 p.steps,nil0,lMs p.inn, .ref 0 p.out.length 0 p.out.length])
  ((0, .arr 1 p.out.length (qak 1 (qae p.out)))::qai 1 (famB 1 eI (qae p.out))):=by
 obtain⟨h2,h3,h4,h5⟩:=h
 refine qba 200 (fn:=Tryz.f170) Tryz.func170 rfl (by simp [Tryz.ntmps170]) 0 rfl (by((try refine zW ?_);(try with_reducible exact True.intro))) (by((try refine zW ?_);(try with_reducible exact True.intro))) (qcV _ hc rfl) (qgA _ hc) (by((try refine zW ?_);(try with_reducible exact True.intro));omega) fun hs=>?_
 try refine zW ?_
 (refine walk_trim [1,2,75] trivial zL ?_;refine zW ?_;refine irun_walk (id:=1) (n:=200) [none,none,none,none,none,none,none,none,some [0,1,2,3,4,5,9,10,12,13],none,none,some [0,1,2,3,4,5,12,13],none,none,some [0,1,2,3,4,5],none,some []] qan (by kernel_rfl) ?_)
 try refine zW ?_
 (refine qhT ?_;refine zW ?_;refine callA_of (qeQ) zB ?_;((try refine zW ?_);(try with_reducible exact True.intro)))
 try refine zW ?_
 (refine at_dcall ?_;refine zW ?_;refine callA_of (qnl _ h4 h2) zB ?_;((try refine zW ?_);(try with_reducible exact True.intro)))
 try refine zW ?_
 (refine qes ?_;refine zW ?_;refine qaB [] (qon p.out h5 h3 hc) zU ?_;((try refine zW ?_);(try with_reducible exact True.intro)))
 (try simp (maxSteps:=2000000) (disch:=omega) only [go_sem,simprocAttr,zD,zE,qaV])
 refine⟨?_,?_⟩
 ·have hw: ∀b∈List.map (fun x:Nat × IBlk=>x.fst) ((qai 3 (famB 1 eI (qae p.out))).reverse++ [(2,IBlk.arr 1 p.out.length (qak 3 (qae p.out)))]),¬b=0:=fam_ne (by decide) (by decide)
  generalize List.map (fun x:Nat × IBlk=>x.fst) ((qai 3 (famB 1 eI (qae p.out))).reverse++ [(2,IBlk.arr 1 p.out.length (qak 3 (qae p.out)))])=w at hw ⊢
  cases w with
  | nil=>trivial
  | cons b w=>exact⟨hw b (by simp),fun a ha=>hw a (by simp [ha])⟩
 ·refine qdd 2 (.inr rfl) (Nat.zero_le _) (by((try refine zW ?_);(try with_reducible exact True.intro))) (by((try refine zW ?_);(try with_reducible exact True.intro));omega) (qcV _ hc rfl) ?_ ?_
  ·try refine zO ?_
   refine qcF fun i hi=>?_
   (try simp (maxSteps:=2000000) (disch:=omega) only [go_sem,simprocAttr,zD,zE,qaW])
  ·((try refine zW ?_);(try with_reducible exact True.intro))
theorem qm4 (h:Hs) (hg:gHs h) {c:Nat} (hc:c=1+h.out.length):PG Tryz.prog 95 [lHs h] [] c
  (.agg [sci .i64 h.node,sci .i64 h.state,sci .i64 h.steps,lMs h.inn, .ref 0 h.out.length 0 h.out.length])
  ((0, .arr 1 h.out.length (qak 1 (qae h.out)))::qai 1 (famB 1 eI (qae h.out))):=by
 refine qba 200 (fn:=Tryz.f95) Tryz.func95 rfl (by simp [Tryz.ntmps95]) 0 rfl (by((try refine zW ?_);(try with_reducible exact True.intro))) (by((try refine zW ?_);(try with_reducible exact True.intro))) (qcV _ hc rfl) (qgA _ hc) (by((try refine zW ?_);(try with_reducible exact True.intro));omega) fun hs=>?_
 try refine zW ?_
 (refine qaf 200 ?_;refine zW ?_;refine callA_of (qhv h) zB ?_;((try refine zW ?_);(try with_reducible exact True.intro)))
 try refine zW ?_
 (refine qlY 200 ?_;refine zW ?_;refine qaB [] (qnG h hg hc) zU ?_;((try refine zW ?_);(try with_reducible exact True.intro)))
 (try simp (maxSteps:=2000000) (disch:=omega) only [go_sem,simprocAttr,zD,zE,qaV])
 refine qdd 2 (.inr rfl) (Nat.zero_le _) (by((try refine zW ?_);(try with_reducible exact True.intro))) (by((try refine zW ?_);(try with_reducible exact True.intro));omega) (qcV _ hc rfl) ?_ ?_
 ·(try simp (maxSteps:=2000000) (disch:=omega) only [go_sem,simprocAttr,zD,zE,qaV])
  refine qcF fun i hi=>?_
  have hi':=hi
  rw [qaT] at hi'
  (try simp (maxSteps:=2000000) (disch:=omega) only [go_sem,simprocAttr,zD,zE,qaW])
 ·((try refine zW ?_);(try with_reducible exact True.intro))
end Go.Proofs.NO
