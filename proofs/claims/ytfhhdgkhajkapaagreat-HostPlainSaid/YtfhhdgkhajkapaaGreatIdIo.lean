/- Facts that the proofs of this claim lean on. -/
import Derived.Test.YtfhhdgkhajkapaaGreatIdGr
import Derived.Lib.Overlaps
set_option linter.unusedSimpArgs false
set_option linter.unusedVariables false
/-
 Families of blocks: a list of lists of which each row is held.
-/
namespace Go.Idl
variable {P:Program} {h0:IH}
def qak {β:Type}:Nat→List (Nat × List β)→List (List IV)
 | _, []=> []
 | k,x::r=> [.ref k x.1 0 x.2.length]::qak (k+1) r
def famB {β:Type} (sz:Nat) (e:β→List PV) (xs:List (Nat × List β)):List IBlk:=xs.map fun x=> .arr sz x.1 (ir e x.2)
def qae {β:Type} (l:List (List β)):List (Nat × List β):=l.map fun x=>(0,x)
section
variable {β:Type} {k k' n sz g:Nat} {e:β→List PV} {xs:List (Nat × List β)} {ρ:Nat→Nat}
theorem qbA: ∀ {xs:List (Nat × List β)} {k:Nat},(qak k xs).length=xs.length
 | [],_=>rfl
 | x::r,k=>by simp only [qak,List.length_cons,qbA]
theorem qcz: ∀ {xs:List (Nat × List β)} {k i:Nat} (h:i < xs.length),(qak k xs)[i]? =some [.ref (k+i) xs[i].1 0 xs[i].2.length]
 | x::r,k,0,_=>rfl
 | x::r,k,i+1,h=>by
   have:=qcz (xs:=r) (k:=k+1) (i:=i) (by simpa using h)
   simp only [qak,List.getElem?_cons_succ,this,List.getElem_cons_succ]
   rw [show k+1+i=k+(i+1) by omega]
theorem qfy: ∀ {xs:List (Nat × List β)} {k i:Nat} {x:Nat × List β} (_:i < xs.length),(qak k xs).set i [.ref (k+i) x.1 0 x.2.length]=qak k (xs.set i x)
 | y::r,k,0,x,_=>rfl
 | y::r,k,i+1,x,h=>by
   have:=qfy (xs:=r) (k:=k+1) (i:=i) (x:=x) (by simpa using h)
   simp only [qak,List.set_cons_succ]
   rw [←this,show k+1+i=k+(i+1) by omega]
theorem qeK: ∀ {xs:List (Nat × List β)} {k:Nat} {x:Nat × List β},qak k (xs++ [x])=qak k xs++ [[.ref (k+xs.length) x.1 0 x.2.length]]
 | [],k,x=>rfl
 | y::r,k,x=>by
   simp only [List.cons_append,qak,qeK (xs:=r),List.length_cons]
   rw [show k+1+r.length=k+(r.length+1) by omega]
theorem qbV: ∀ {xs:List (Nat × List β)} {k k':Nat},(∀i,i < xs.length→ρ (k+i)=k'+i)→rnRw ρ (qak k xs)=qak k' xs
 | [],_,_,_=>rfl
 | x::r,k,k',h=>by
   have:=qbV (xs:=r) (k:=k+1) (k':=k'+1) fun i hi=>by
    have:=h (i+1) (by simpa using hi)
    rw [show k+1+i=k+(i+1) by omega,this];omega
   simp only [qak,qns,this,rnms,rnm]
   rw [show ρ k=k' from h 0 (by simp)]
theorem qbh: ∀ {xs:List (Nat × List β)} {k:Nat},(k+xs.length≤n)→qbd n (qak k xs)
 | [],_,_=>trivial
 | x::r,k,h=>by
   simp only [List.length_cons] at h
   exact⟨by simp [bels,bel];omega,qbh (by omega)⟩
theorem qcq:(famB sz e xs).length=xs.length:=by simp [famB]
theorem qnP {i:Nat} (h:i < xs.length):(famB sz e xs)[i]? =some (.arr sz xs[i].1 (ir e xs[i].2)):=by simp [famB,h]
theorem qe4: ∀ {L:List IBlk} {k:Nat} {p:Nat × IBlk},p∈qai k L→ ∃i,∃h:i < L.length,p.1=k+i∧p.2=L[i]
 | [],k,p,h=>by cases h
 | x::L,k,p,h=>by
   simp only [qai,List.mem_cons] at h
   rcases h with rfl | h
   ·exact⟨0,by simp,rfl,rfl⟩
   ·obtain⟨i,hi,e1,e2⟩:=qe4 h
    exact⟨i+1,by simpa using hi,by omega,by simpa using e2⟩
theorem qk4 {L:List IBlk} {k i:Nat} {r:List (Nat × IBlk)} (h:i < L.length):look (qai k L++r) (k+i)=some L[i]:=by
 rw [qac,qcJ];simp [h]
theorem qaW {k i:Nat} {r:List (Nat × IBlk)} (h:i < xs.length):look (qai k (famB sz e xs)++r) (k+i)=some (.arr sz xs[i].1 (ir e xs[i].2)):=by
 rw [qac,qcJ,if_pos (by omega),Nat.add_sub_cancel_left,qnP h]
theorem qj9 {L:List IBlk} {k b:Nat} {r:List (Nat × IBlk)} (h:b < k∨k+L.length≤b):look (qai k L++r) b=look r b:=by
 rw [qac,qcJ]
 by_cases hk:k≤b
 ·rw [if_pos hk,List.getElem?_eq_none (by omega)]
 ·rw [if_neg hk]
theorem qaV {b:Nat} {r:List (Nat × IBlk)} (h:b < k∨k+xs.length≤b):look (qai k (famB sz e xs)++r) b=look r b:=qj9 (by rw [qcq];exact h)
@[go_sem] theorem qp4 {L:List IBlk} {b:Nat} {r q:List (Nat × IBlk)}:look ((qai k L++r)++q) b=look (qai k L++(r++q)) b:=by rw [List.append_assoc]
theorem qaT (l:List (List β)):(qae l).length=l.length:=by simp [qae]
theorem qgf (l:List (List β)) (x:List β):qae (l++ [x])=qae l++ [(0,x)]:=by simp [qae]
theorem qdr (h: ∀i,i < xs.length→ρ (k+i)=k'+i):rnL ρ (qai k (famB sz e xs))=qai k' (famB sz e xs):=by
 induction xs generalizing k k' with
 | nil=>rfl
 | cons x r ih=>
   have:=ih (k:=k+1) (k':=k'+1) fun i hi=>by
    have:=h (i+1) (by simpa using hi)
    rw [show k+1+i=k+(i+1) by omega,this];omega
   simp only [famB,List.map_cons,qai,qow,qpy,qpA] at this ⊢
   rw [this,show ρ k=k' from h 0 (by simp)]
section
variable {nx a b:Nat}
@[go_sem] theorem rnL_fam0:rnL (ridx [] nx) (qai k (famB sz e xs))=qai (nx+k) (famB sz e xs):=qdr fun i _=>by simp [ridx];omega
@[go_sem] theorem rnL_fam1:rnL (ridx [a] nx) (qai (k+1) (famB sz e xs))=qai (nx+k) (famB sz e xs):=qdr fun i _=>by rw [qb6 (by simp;omega)];simp;omega
@[go_sem] theorem rnRw_fam0:rnRw (ridx [] nx) (qak k xs)=qak (nx+k) xs:=qbV fun i _=>by simp [ridx];omega
@[go_sem] theorem rnRw_fam1:rnRw (ridx [a] nx) (qak (k+1) xs)=qak (nx+k) xs:=qbV fun i _=>by rw [qb6 (by simp;omega)];simp;omega
end
@[go_sem] theorem rnL_app {l m:List (Nat × IBlk)}:rnL ρ (l++m)=rnL ρ l++rnL ρ m:=by simp [rnL]
theorem qgJ {l m:List (Nat × IBlk)}:qbs n (l++m)↔qbs n l∧qbs n m:=by
 induction l with
 | nil=>simp [qbs]
 | cons p l ih=>simp only [List.cons_append,qbs,ih,and_assoc]
theorem qde (h:k+xs.length≤n):qbs n (qai k (famB sz e xs)):=by
 induction xs generalizing k with
 | nil=>trivial
 | cons x r ih=>
   simp only [List.length_cons] at h
   refine⟨?_,?_,ih (by omega)⟩
   ·show k < n;omega
   ·show qa4 n (.arr sz x.1 (ir e x.2))
    rw [qcb,qcf];trivial
theorem qff {W:List (Nat × IBlk)} {c:Nat} (h: ∀i,k≤i→i < k+c→(look W i).isSome=true):hasAll W k c:=by
 induction c with
 | zero=>trivial
 | succ c ih=>exact⟨h _ (by omega) (by omega),ih fun i h1 h2=>h i h1 (by omega)⟩
theorem qgH:qd4 n (famB sz e xs):=by
 induction xs with
 | nil=>trivial
 | cons x r ih=>
   refine⟨?_,ih⟩
   show qa4 n (.arr sz x.1 (ir e x.2))
   rw [qcb,qcf];trivial
end
theorem qe8 {L:List IBlk} {k b:Nat} (h:b < k∨k+L.length≤b):List.filter (fun q:Nat × IBlk=>q.fst != b) (qai k L)=qai k L:=by
 rw [List.filter_eq_self]
 intro p hp
 obtain⟨i,hi,e,_⟩:=qe4 hp
 simp only [bne_iff_ne,ne_eq]
 omega
theorem qhW: ∀ {L:List IBlk} {k:Nat},ddp (qai k L)=qai k L
 | [],_=>rfl
 | x::L,k=>by
   show(k,x)::List.filter (fun q:Nat × IBlk=>q.fst != k) (ddp (qai (k+1) L))=_
   rw [qhW,qe8 (.inl (by omega))];rfl
section
variable {β:Type} {k b sz:Nat} {e:β→List PV} {xs:List (Nat × List β)}
@[go_sem] theorem ddp_fam:ddp (qai k (famB sz e xs))=qai k (famB sz e xs):=qhW
@[go_sem] theorem qp3 (h:b < k∨k+xs.length≤b):List.filter (fun q:Nat × IBlk=>q.fst != b) (qai k (famB sz e xs))=qai k (famB sz e xs):=qe8 (by rw [qcq];exact h)
end
/-! ### cuts -/
section
variable {S:qaa} {m:List (Nat × IBlk)} {ids:List Nat} {nx nx0 k:Nat} {L:List IBlk} {r l':List (Nat × IBlk)}
theorem qgc (h: ∀i,∀hi:i < L.length,∃z,look (S.l++m) (k+i)=some z∧fwB (look (S.l++m)) ids z L[i]) (hn:nx=S.nx∨k+L.length≤nx∧qd4 nx L) (hr:fblksIn S m ids nx r):fblksIn S m ids nx (qai k L++r):=by
 induction L generalizing k with
 | nil=>exact hr
 | cons x L ih=>
   have h1:=h 0 (by simp)
   obtain⟨z,e1,e2⟩:=h1
   refine⟨?_,?_,ih (k:=k+1) (fun i hi=>?_) ?_⟩
   ·show qap (look (S.l++m) k) _ _
    rw [Nat.add_zero] at e1
    rw [e1,qaj];exact e2
   ·rcases hn with hn | ⟨hn,hb⟩
    ·exact .inl hn
    ·simp only [List.length_cons] at hn
     exact .inr ⟨by show k < nx;omega,hb.1⟩
   ·have:=h (i+1) (by simpa using hi)
    rw [show k+1+i=k+(i+1) by omega];simpa using this
   ·rcases hn with hn | ⟨hn,hb⟩
    ·exact .inl hn
    ·simp only [List.length_cons] at hn
     exact .inr ⟨by omega,hb.2⟩
theorem qb5 {β:Type} {sz:Nat} {e:β→List PV} {xs:List (Nat × List β)} (hn:nx=S.nx∨k+xs.length≤nx) (h: ∀i,∀hi:i < xs.length,look (S.l++m) (k+i)=some (.arr sz xs[i].1 (ir e xs[i].2))):
  fblksIn S m ids nx (qai k (famB sz e xs)):=by
 have:=qgc (S:=S) (m:=m) (ids:=ids) (nx:=nx) (k:=k) (L:=famB sz e xs) (r:= []) (fun i hi=>?_) ?_ trivial
 ·rwa [List.append_nil] at this
 ·have hi':i < xs.length:=by rwa [qcq] at hi
  refine⟨_,h i hi',?_⟩
  have:(famB sz e xs)[i]= .arr sz xs[i].1 (ir e xs[i].2):=by simp [famB]
  rw [this]
  exact⟨rfl,rfl, .inl rfl⟩
 ·rcases hn with hn | hn
  ·exact .inl hn
  ·exact .inr ⟨by rw [qcq];exact hn,qgH⟩
theorem qe5 {β:Type} {sz:Nat} {e:β→List PV} {xs:List (Nat × List β)} {i:Nat} {x:Nat × List β} (hn:nx=S.nx∨k+xs.length≤nx) (h:look (S.l++m) (k+i)=some (.arr sz x.1 (ir e x.2)))
  (ho: ∀j,∀hj:j < xs.length,¬j=i→look (S.l++m) (k+j)=some (.arr sz xs[j].1 (ir e xs[j].2))):fblksIn S m ids nx (qai k (famB sz e (xs.set i x))):=by
 refine qb5 (by rw [List.length_set];exact hn) fun j hj=>?_
 by_cases e:j=i
 ·subst e
  rw [List.getElem_set_self];exact h
 ·rw [List.getElem_set_ne (fun q=>e q.symm)]
  exact ho j (by rwa [List.length_set] at hj) e
@[go_sem] theorem qmp: ∀ {l' r:List (Nat × IBlk)},qdl 0 l' r=True
  | _, []=>rfl
  | _,(_,_)::_=>eq_true ⟨.inl (Nat.zero_le _),of_eq_true qmp⟩
theorem qnd (h:nx0≤k∨ ∀i,i < L.length→nx0≤k+i∨ ∃blk,(k+i,blk)∈l') (hr:qdl nx0 l' r):qdl nx0 l' (qai k L++r):=by
 induction L generalizing k with
 | nil=>exact hr
 | cons x L ih=>
   refine⟨?_,ih (k:=k+1) ?_⟩
   ·rcases h with h | h
    ·exact .inl h
    ·simpa using h 0 (by simp)
   ·rcases h with h | h
    ·exact .inl (by omega)
    ·refine .inr fun i hi=>?_
     have:=h (i+1) (by simpa using hi)
     rw [show k+1+i=k+(i+1) by omega];exact this
theorem qnS {G:Nat→Option IBlk} (b:IBlk):fwB G ids b b:=by
 cases b with
 | arr sz g rows=>exact⟨rfl,rfl, .inl rfl⟩
 | mp es=>rfl
 | ob k vs=>rfl
theorem qjV {ids:List Nat} (h1: ∀b,b∈ids→nx0≤b) (h2: ∀p∈l',p.1 ∉ ids):gone nx0 l' ids:=by
 induction ids with
 | nil=>trivial
 | cons b ids ih=>
   refine⟨⟨h1 b (by simp),?_⟩,ih (fun c hc=>h1 c (by simp [hc])) fun p hp hc=>h2 p hp (by simp [hc])⟩
   rw [List.all_eq_true]
   intro p hp
   have:=h2 p hp
   simp only [List.mem_cons,not_or] at this
   simpa using this.1
theorem qmO {w q:List Nat} (h:nx0≤k) (hr:qca nx0 w q):qca nx0 w ((qai k L).map (·.1)++q):=by
 induction L generalizing k with
 | nil=>exact hr
 | cons x L ih=>exact⟨.inl h,ih (k:=k+1) (by omega)⟩
@[go_sem] theorem qgV: ∀ {l:List Nat},geAll 0 l=True
  | []=>rfl
  | _::_=>eq_true ⟨Nat.zero_le _,of_eq_true qgV⟩
@[go_sem] theorem qgI: ∀ {w l:List Nat},qca 0 w l=True
  | _, []=>rfl
  | _,_::_=>eq_true ⟨.inl (Nat.zero_le _),of_eq_true qgI⟩
theorem qgU {β:Type} {sz k:Nat} {e:β→List PV} {e':List β→List PV} {G:Nat→Option IBlk} {xs:List (Nat × List β)} (he: ∀l,e' l= [.imm sz (pr e l)])
  (h: ∀i,∀hi:i < xs.length,k+i∈ids∧G (k+i)=some (.arr sz xs[i].1 (ir e xs[i].2))):fwRs G ids (qak k xs) (ir e' (xs.map (·.2))):=by
 refine .inr ⟨by rw [qbA];simp [ir],fun i r r' h1 h2=>?_⟩
 have hi:i < xs.length:=by have:=qab h1;rwa [qbA] at this
 obtain⟨hm,hg⟩:=h i hi
 rw [qcz hi] at h1
 cases h1
 have h3:(ir e' (xs.map (·.2)))[i]? =some [.p (.imm sz (pr e xs[i].2))]:=by
  rw [ir,List.getElem?_map,List.getElem?_map,List.getElem?_eq_getElem hi]
  simp only [Option.map_some,he,List.map_cons,List.map_nil]
 rw [h3] at h2
 cases h2
 refine⟨⟨hm,?_⟩,rfl⟩
 have hp:pvs2 (ir e xs[i].2)=some (pr e xs[i].2):=by
  have key: ∀l:List β,pvs2 (ir e l)=some (pr e l):=by
   intro l
   induction l with
   | nil=>rfl
   | cons a l ih=>
     have: ∀ps:List PV,pvs (ps.map .p)=some ps:=by
      intro ps
      induction ps with
      | nil=>rfl
      | cons p ps ih=>simp [pvs,ih]
     simp only [ir,List.map_cons,pvs2,this,pr] at ih ⊢
     rw [ih]
  exact key _
 have hl:((ir e xs[i].2).drop 0).take xs[i].2.length=ir e xs[i].2:=by
  rw [List.drop_zero,List.take_of_length_le];simp [ir]
 simp only [frz,hg,if_true,hl,hp,Option.map_some,qaj]
 exact wk_refl _
end
/-! ### ends -/
section
variable {fn:Func} {kk:Nat} {m:List (Nat × IBlk)} {c:Nat} {x:IV} {W:List (Nat × IBlk)} {N:Nat} {s:List (Nat × IV)} {nx:Nat} {l:List (Nat × IBlk)}
def shf (k s i:Nat):Nat:=if i < k then i else i+s
@[go_sem] theorem shf_0 {s i:Nat}:shf 0 s i=i+s:=by simp [shf]
@[go_sem] theorem shf_10 {s:Nat}:shf 1 s 0=0:=rfl
theorem qmy {i t:Nat} (h:i < kk+c):rsel kk (List.range' (kk+t) c) i=shf kk t i:=by
 unfold rsel shf
 by_cases hk:i < kk
 ·rw [if_pos hk,if_pos hk]
 ·rw [if_neg hk,if_neg hk,List.getD_eq_getElem?_getD,List.getElem?_range' (by omega)];simp;omega
@[go_sem] theorem rnL_shf {β:Type} {sz t k k0:Nat} {e:β→List PV} {xs:List (Nat × List β)} (h:k0≤k):rnL (shf k0 t) (qai k (famB sz e xs))=qai (k+t) (famB sz e xs):=qdr fun i _=>by
  unfold shf;rw [if_neg (by omega)];omega
@[go_sem] theorem rnRw_shf {β:Type} {t k k0:Nat} {xs:List (Nat × List β)} (h:k0≤k):rnRw (shf k0 t) (qak k xs)=qak (k+t) xs:=qbV fun i _=>by
  unfold shf;rw [if_neg (by omega)];omega
theorem qdd (t:Nat) {e:Exit} (he:e= .normal∨e= .ret) (hnx:kk≤nx) (hx:ires P ⟨N,s, [],nx,l⟩ (l++m) fn.results.toList=some (rnm (shf kk t) x)) (hb:bel (kk+c) x) (hW:qbs (kk+c) W)
  (hs:qbc (look (l++m)) (rnL (shf kk t) W)) (hi:qca kk ((rnL (shf kk t) W).map (·.1)) (l.map (·.1))):EndG P fn kk m c x W e ⟨N,s, [],nx,l⟩:=by
 have hk: ∀i,i < kk+c→rsel kk (List.range' (kk+t) c) i=shf kk t i:=fun i hi=>qmy hi
 have hWe:rnL (rsel kk (List.range' (kk+t) c)) W=rnL (shf kk t) W:=by
  have h:=qdf hW
  refine List.map_congr_left fun p hp=>?_
  obtain⟨h1,h2⟩:=h p hp
  show(_,_)=(_,_)
  rw [hk _ h1,qfA (K:=(· < kk+c)) hk (qdK h2)]
 have hxe:rnm (rsel kk (List.range' (kk+t) c)) x=rnm (shf kk t) x:=qdQ (K:=(· < kk+c)) hk _ (qcM x hb)
 have hend:endG P fn kk m c x W (List.range' (kk+t) c) ⟨N,s, [],nx,l⟩:=by
  rw [qli,hx,qaj,hxe,hWe]
  refine⟨fzv_refl _,?_,hi⟩
  clear hWe hi hW
  generalize rnL (shf kk t) W=V at *
  induction V with
  | nil=>trivial
  | cons p V ih=>
    refine⟨?_,ih hs.2⟩
    rw [hs.1,qaj]
    cases hp:p.2 with
    | arr sz g rows=>exact⟨rfl,rfl,qaw _⟩
    | mp es=>exact qfd _
    | ob k vs=>exact⟨rfl,rfl⟩
 have hn:(List.range' (kk+t) c).length=c∧geAll kk (List.range' (kk+t) c)∧qao (List.range' (kk+t) c):=by
  refine⟨List.length_range' ..,?_,?_⟩
  ·clear hend hxe hWe hk hi hs hW hb hx hnx
   suffices h: ∀c a,kk≤a→geAll kk (List.range' a c) from h c (kk+t) (Nat.le_add_right _ _)
   intro c
   induction c with
   | zero=>intro a _;trivial
   | succ c ih=>intro a h;exact⟨h,ih (a+1) (by omega)⟩
  ·clear hend hxe hWe hk hi hs hW hb hx hnx
   generalize kk+t=a
   induction c generalizing a with
   | zero=>trivial
   | succ c ih=>
     refine⟨?_,ih (a+1)⟩
     suffices h: ∀c b,a < b→qao.nin a (List.range' b c) from h c (a+1) (by omega)
     intro c
     induction c with
     | zero=>intro b _;trivial
     | succ c ih=>intro b h;exact⟨by omega,ih (b+1) (by omega)⟩
 rcases he with rfl | rfl
 ·exact⟨rfl,hnx,_,hn,hend⟩
 ·exact⟨rfl,hnx,_,hn,hend⟩
theorem qnx {k:Nat}:shf k 0=id:=by funext i;simp [shf]
theorem qmD {e:Exit} (he:e= .normal∨e= .ret) (hnx:kk≤nx) (hx:ires P ⟨N,s, [],nx,l⟩ (l++m) fn.results.toList=some x) (hb:bel (kk+c) x) (hW:qbs (kk+c) W)
  (hs:qbc (look (l++m)) W) (hi:qca kk (W.map (·.1)) (l.map (·.1))):EndG P fn kk m c x W e ⟨N,s, [],nx,l⟩:=by
 have hW':rnL (shf kk 0) W=W:=by
  rw [qnx]
  exact(List.map_congr_left fun p _=>by rw [qhn];rfl).trans (List.map_id' _)
 refine qdd 0 he hnx (by rw [hx,qnx,qho]) hb hW (by rw [hW'];exact hs) (by rw [hW'];exact hi)
theorem qkP {G:Nat→Option IBlk} {a b:List (Nat × IBlk)}:qbc G (a++b)↔qbc G a∧qbc G b:=by
 induction a with
 | nil=>simp [qbc]
 | cons p l ih=>simp only [List.cons_append,qbc,ih,and_assoc]
theorem qeW {G:Nat→Option IBlk} {L:List IBlk} {k:Nat} (h: ∀i,∀hi:i < L.length,G (k+i)=some L[i]):qbc G (qai k L):=by
 induction L generalizing k with
 | nil=>trivial
 | cons x L ih=>
   refine⟨h 0 (by simp),ih (k:=k+1) fun i hi=>?_⟩
   have:=h (i+1) (by simpa using hi)
   rw [show k+1+i=k+(i+1) by omega];simpa using this
end
theorem qcF {β:Type} {sz k:Nat} {e:β→List PV} {xs:List (Nat × List β)} {G:Nat→Option IBlk} (h: ∀i,∀hi:i < xs.length,G (k+i)=some (.arr sz xs[i].1 (ir e xs[i].2))):qbc G (qai k (famB sz e xs)):=
 qeW fun i hi=>by
  have hi':i < xs.length:=by rwa [qcq] at hi
  rw [h i hi'];simp [famB]
/-! ### calls whose new blocks are numbered at will -/
section
variable {f:FuncId} {args:List IV} {c:Nat} {x:IV} {W:List (Nat × IBlk)}
theorem PG.icallN (h:PG P f args [] c x W) {hp:IH} (ν:Nat→Nat) {nx':Nat} (hinj: ∀i j,i < c→j < c→ν i=ν j→i=j) (hν: ∀i,i < c→hp.nx≤ν i∧ν i < nx') (hle:hp.nx≤nx'):
  qaX P f (rnms ν args) hp fun r nx l=>r= .ret (rnm ν x)∧nx=nx'∧l=rnL ν W:=by
 intro M vs hM hl hr
 have hin:=h.hin
 have hzs:=h.hzs
 have hW:=h.hW
 have hcall:=h.call
 have hhx:=h.hx
 simp only [List.length_nil,Nat.zero_add] at hzs hW hhx
 refine(qgp (R:= []) (c:=c) (ρ:=ν) (Ψ:=fun r0 V=>r0= .ret x∧V=W) (by simpa using hinj) hin hzs (hcall.mono fun r n l ⟨σ,h1,h2,h3⟩=>⟨σ, .ret x,W,h1,by simpa using hW,h3,?_,?_,rfl,rfl⟩) hM.rel (fun i blk hb=>by simp at hb)
  (fun j _ hj=>fun hA=>by have:=hM.A _ hA;have:=(hν j (by simpa using hj)).1;omega) (by rw [hl,qaC]) (fun i y v hy hv=>hr i _ v (qbD hy) hv)).mono ?_
 ·intro M e he;rw [h2] at he;exact he
 ·intro z hz;cases hz;simpa using hhx
 ·rintro e w' ⟨M',r0,V,e1,st,rel,hH,he,_,rfl,rfl⟩
  refine⟨M',nx',rnL ν V, .ret (rnm ν x),e1,st,qeC hM rel hle hH fun p hp'=>?_,he,rfl,rfl,rfl⟩
  obtain⟨q,hq,e⟩:=qcX hp'
  rw [e]
  have h1:=(hW.low q hq).1
  exact(hν _ (by omega)).2
variable {Q:Exit→qaa→Prop} {k:List It} {all:Array Oper} {r:List Oper} {dst:Option Tmp} {ty:TypeId} {pos:String} {aft:Array Edge} {N:Nat} {s:List (Nat × IV)} {d:List IDef} {nx:Nat} {l:List (Nat × IBlk)}
 {g:Option (Nat × Bool)} {fo:Operand} {as:List Operand} {ts:List TypeId}
theorem at_gN (n:Nat) (ν:Nat→Nat) (nx':Nat) (hp:PG P f args [] c x W) (hinj: ∀i j,i < c→j < c→ν i=ν j→i=j) (hν: ∀i,i < c→nx≤ν i∧ν i < nx') (hle:nx≤nx')
  (h:qap (qar (ev s) fo as) (fun q=>(qam all s ⟨dst, .call {callee:= .value fo,args:=⟨as⟩,argTypes:=⟨ts⟩},ty,pos,aft,g⟩=some true∧fnOk P q.1=true∧dOk N dst=true)∧
   q.1=f∧wks q.2 (rnms ν args)∧vc P h0 Q n (.ops all r::k) ⟨N,putS dst (rnm ν x) s,d,nx',rnL ν W++l⟩) False):
  IRun P h0 (.ops all (⟨dst, .call {callee:= .value fo,args:=⟨as⟩,argTypes:=⟨ts⟩},ty,pos,aft,g⟩::r)::k) ⟨N,s,d,nx,l⟩ Q:=by
 cases hc:qar (ev s) fo as with
 | none=>rw [hc] at h;exact h.elim
 | some q=>
   rw [hc,qaj] at h
   obtain⟨⟨h1,h2,h3⟩,e1,hw,p5⟩:=h
   subst e1
   refine iops_call (S:=⟨N,s,d,nx,l⟩) rfl h1 hc h2 (by cases dst<;>simp_all [dOk,qay]) ((qeD (hp.icallN (hp:=⟨nx,l++h0.m⟩) ν hinj hν hle) hw).mono ?_)
   rintro e nx' l' ⟨rfl,rfl,rfl⟩
   simp only [qaJ]
   exact vc_sound Q n _ _ p5
end
end Go.Idl
/-
 Where a slice's room is asked for: the run by hand, at one memory.
-/
namespace Go.Idl
variable {P:Program} {h0:IH}
theorem qn2 {c:Code} {k:List It} {S:qaa} {Q:Exit→qaa→Prop} (h: ∀M0,HRel h0.nx h0.m M0→ ∀M a,qad M0 M→SRel h0 S M a→ ∀ro,RoOk ro (ndC c)→c.wpIn (Wd ro) 0 P (qcm h0 M0 fun e S'=>after P h0 Q k e S') a M.w):
  IRun P h0 (.code c::k) S Q:=h
theorem qnJ {c:Code} {k:List It} {S:qaa} {Q:Exit→qaa→Prop} (h:IRun P h0 (.code c::k) S Q) {M0:Mem} (hM0:HRel h0.nx h0.m M0) {M:Mem} {a:Act} (hs:qad M0 M) (hr:SRel h0 S M a) {ro:Option Nat} (hro:RoOk ro (ndC c)):
  c.wpIn (Wd ro) 0 P (qcm h0 M0 fun e S'=>after P h0 Q k e S') a M.w:=h M0 hM0 M a hs hr ro hro
theorem fop_nd {o:Oper} {ρ:Operand→Option IV} {G:Nat→Option IBlk} {nx:Nat} {all:Array Oper} {dst:Option Tmp} {fr:FR} (h:fop P ρ G nx all dst o.op=some fr):ndOp o=true:=by
 unfold ndOp
 cases ho:o.op<;>first | rfl | (rw [ho] at h;cases h)
theorem wp_fop {ro:Option Nat} {all:Array Oper} {o:Oper} {r:List Oper} {S:qaa} {M:Mem} {a:Act} {fr:FR} {Qx:Exit→Act→World→Prop} (hr:SRel h0 S M a) (hw:qam all S.s o=some true)
  (hf:fop P (ev S.s) (look (S.l++h0.m)) S.nx all o.dst o.op=some fr) (hd:qay S o.dst=true)
  (h: ∀v M',qad M M'→SRel h0 (S.put o.dst fr.x (S.nx+fr.F.length) fr.W.reverse) M' (a.put o.dst v)→wpListIn (Wd ro) 0 P all Qx r (a.put o.dst v) M'.w):wpListIn (Wd ro) 0 P all Qx (o::r) a M.w:=by
 obtain⟨hdo,hfit⟩:=fop_sound hf
 refine wpListW_step (.inr (fop_nd hf)) fun K hK=>?_
 rw [if_pos (qaR hr hw)]
 refine hdo M a hr.heap.rel (fun p hp=>by rw [hr.heap.G];exact hfit.reads p hp) (fun b hb=>?_) (fun y _ z hz=>qau hr.slot hz) K _ fun v M' st rel hH hv=>?_
 ·rcases hfit.new with ⟨hF,_⟩ | ⟨hF,_⟩
  ·rw [hF] at hb;cases hb
  ·rw [hF] at hb
   simp only [List.mem_cons,List.not_mem_nil,or_false] at hb
   subst hb
   exact fun hb=>Nat.lt_irrefl _ (hr.heap.A _ hb)
 ·refine hK _ _ (h v M' st (hr.step st hd hv ?_))
  have:=hr.heap.upd rel hH (S.nx+fr.F.length) (fits_dom hr.heap hfit)
  rw [List.append_assoc]
  exact this
theorem keep_β {M M':Mem} (st:qad M M') {b:Nat} {blk:IBlk} (hA:M.H.A b) (h:M.H.G b=some blk) (h':M'.H.G b=some blk):M'.β b=M.β b:=by
 obtain⟨blk0,e0,_,_,_,he⟩:=st.comp b blk hA h'
 rw [h] at e0;cases e0;exact(he rfl).1
theorem wp_cap {ro:Option Nat} {all:Array Oper} {y:Operand} {T ty e:TypeId} {pos:String} {aft:Array Edge} {dst:Option Tmp} {r:List Oper} {S:qaa} {M:Mem} {a:Act} {Qx:Exit→Act→World→Prop} {b g off len sz:Nat} {rows:List (List IV)}
  (hr:SRel h0 S M a) (ht:tel P T=some e) (hy:ev S.s y=some (.ref b g off len)) (hb:look (S.l++h0.m) b=some (.arr sz g rows)) (hd:qay S dst=true)
  (h: ∀(ad:Option Addr) (cap:Nat),a.eval y= .slice ad len cap→qco (M.β b) sz rows.length off len (.slice ad len cap)→
   SRel h0 (S.put dst (sci .i64 cap) S.nx []) M (a.put dst (.int .i64 cap))→wpListIn (Wd ro) 0 P all Qx r (a.put dst (.int .i64 cap)) M.w):
  wpListIn (Wd ro) 0 P all Qx (⟨dst, .call {callee:= .builtin .cap,args:=#[y],argTypes:=#[T]},ty,pos,aft,none⟩::r) a M.w:=by
 refine wpListW_step (.inr rfl) fun K hK=>?_
 rw [if_pos (qaR hr (show qam all S.s ⟨dst,_,ty,pos,aft,none⟩=some true from rfl))]
 have hv:=qau hr.slot hy
 have hG:M.H.G b=some (.arr sz g rows):=by rw [hr.heap.G];exact hb
 have hok:qco (M.β b) sz rows.length off len (a.eval y):=by
  generalize a.eval y=q at hv
  cases hv with
  | ref _ _ _ _ _ hA hv h=>exact(h _ hG).2 rfl
 obtain⟨ad,cap,e1,e2⟩:=id hok
 rw [e1] at hok
 have hrun:(execOp a.eval ⟨dst, .call {callee:= .builtin .cap,args:=#[y],argTypes:=#[T]},ty,pos,aft,none⟩).run P M.w= .ok (.value (.int .i64 cap)) M.w:=by
  simp [execOp,resolve,invoke,builtin,e1,Builtin.cap_,run_underlying (und_tel ht),goInt]
 unfold Oper.wp
 rw [hrun]
 exact hK _ _ (h ad cap e1 hok (hr.step (.refl M) hd (.p _ _ (.sc _)) hr.heap))
theorem qph {M:Mem} (h:MRel M) {b sz g:Nat} {rows:List (List IV)} {c o n:Nat} (hb:M.H.G b=some (.arr sz g rows)) (hβ:M.β b=some (c,o,n)) (g' n':Nat) (rows':List (List IV)) (hg:g < g')
  (hB: ∀M':Mem,qad M M'→M'.w=M.w→M'.β b=some (c,o,n')→BRel M' b (.arr sz g' rows')):
  qad M ⟨M.w,M.H.put b (.arr sz g' rows'),putβ M.β b (some (c,o,n'))⟩∧MRel ⟨M.w,M.H.put b (.arr sz g' rows'),putβ M.β b (some (c,o,n'))⟩:=by
 have hown:M.own c:= .inr ⟨b,_,o,n,hb,hβ⟩
 have s:qad M ⟨M.w,M.H.put b (.arr sz g' rows'),putβ M.β b (some (c,o,n'))⟩:=by
  refine⟨rfl,rfl,rfl,Nat.le_refl _,fun c' hc' ho=>⟨rfl,?_⟩,fun _ h=> .inl h,fun b' blk' hA' hb'=>?_,rfl,fun c' hc'=>rfl⟩
  ·rintro(hO | ⟨b',blk,o'',n'',hb',hc''⟩)
   ·exact ho (.inl hO)
   by_cases e:b'=b
   ·simp only [putβ,e,if_true,Option.some.injEq,Prod.mk.injEq] at hc''
    exact ho (hc''.1 ▸hown)
   ·simp only [AH.put,putβ,e,if_false] at hb' hc''
    exact ho (.inr ⟨b',blk,o'',n'',hb',hc''⟩)
  ·by_cases e:b'=b
   ·subst e
    simp only [AH.put,if_true,Option.some.injEq] at hb'
    subst hb'
    exact⟨_,hb,rfl,rfl,Nat.le_of_lt hg,fun e=>by simp only [IBlk.gen] at e;omega⟩
   ·simp only [AH.put,e,if_false] at hb'
    exact⟨blk',hb',rfl,rfl,Nat.le_refl _,fun _=>⟨by simp [putβ,e],rfl⟩⟩
 refine⟨s,h.change s b (.inr rfl) ?_ ?_ ?_ ?_ ?_ ?_⟩
 ·intro b' e;simp [AH.put,e]
 ·intro b' e;simp [putβ,e]
 ·intro b' blk c' o'' n'' e hb' hc';rfl
 ·intro blk' hb'
  simp only [AH.put,if_true,Option.some.injEq] at hb'
  subst hb'
  exact hB _ s rfl (by simp [putβ])
 ·intro blk' c' o'' n'' hb' hc' b' blk o3 n3 e hb'' hc''
  simp only [putβ,if_true,Option.some.injEq,Prod.mk.injEq] at hc'
  obtain⟨rfl,rfl,rfl⟩:=hc'
  exact e (h.inj b' b blk _ c o3 n3 o n hb'' hb hc'' hβ)
 ·intro blk' c' o'' n'' _ hc' hO
  simp only [putβ,if_true,Option.some.injEq,Prod.mk.injEq] at hc'
  obtain⟨rfl,rfl,rfl⟩:=hc'
  exact h.odis b _ c o n hb hβ hO
theorem qkx {S:qaa} {M:Mem} {a:Act} (hr:SRel h0 S M a) {b sz g t:Nat} {rows:List (List IV)} {c o n:Nat} (hb:look (S.l++h0.m) b=some (.arr sz g rows)) (hβ:M.β b=some (c,o,n)) (g' n':Nat) (rows':List (List IV))
  (hg:g < g') (hB: ∀M':Mem,qad M M'→M'.w=M.w→M'.β b=some (c,o,n')→BRel M' b (.arr sz g' rows')) {v:Value} (hv:a.tmps[t]? =some v) {len:Nat} (hrf:qco (some (c,o,n')) sz rows'.length 0 len v):
  ∃M',M'.w=M.w∧qad M M'∧M'.β b=some (c,o,n')∧SRel h0 ⟨S.n,(t, .ref b g' 0 len)::S.s,S.d,S.nx,(b, .arr sz g' rows')::S.l⟩ M' a:=by
 have hG:M.H.G b=some (.arr sz g rows):=by rw [hr.heap.G];exact hb
 obtain⟨st,rel⟩:=qph hr.heap.rel hG hβ g' n' rows' hg hB
 refine⟨⟨M.w,M.H.put b (.arr sz g' rows'),putβ M.β b (some (c,o,n'))⟩,rfl,st,by simp [putβ],⟨⟨rel,fun b' hb'=>?_,fun b'=>?_⟩,hr.size,fun i y hy=>?_,hr.defs.step st⟩⟩
 ·rcases hb' with hb' | rfl
  ·exact hr.heap.A _ hb'
  ·exact hr.heap.A _ (hr.heap.rel.dom _ _ hG)
 ·simp only [AH.put,List.cons_append,look]
  by_cases e:b'=b
  ·subst e;simp
  ·rw [if_neg e,if_neg (fun h=>e h.symm)];exact hr.heap.G b'
 ·simp only [look] at hy
  split at hy
  ·rename_i e
   subst e
   cases hy
   obtain⟨ad,cap,e1,_⟩:=id hrf
   refine⟨v,hv, .ref b g' 0 len v (.inr rfl) ⟨ad,cap,e1⟩ fun blk hblk=>?_⟩
   simp only [AH.put,if_true,Option.some.injEq] at hblk
   subst hblk
   exact⟨Nat.le_refl _,fun _=>by simp only [putβ,if_true];exact hrf⟩
  ·obtain⟨u,u1,u2⟩:=hr.slot i y hy
   exact⟨u,u1,u2.step st⟩
theorem qmT {M M':Mem} {b sz g g':Nat} {rows:List (List IV)} {c o n:Nat} (h:BRel M b (.arr sz g rows)) (hβ:M.β b=some (c,o,n)) (st:qad M M') (hw:M'.w=M.w) (hβ':M'.β b=some (c,o,rows.length)):BRel M' b (.arr sz g' rows):=by
 obtain⟨r1,r2,r3⟩:=h
 obtain⟨cs,ty,q1,q2,q3,q4,q5⟩:=r3 c o n hβ
 refine⟨r1,fun hn=>(by rw [hβ'] at hn;cases hn),fun c' o' n' hc'=>?_⟩
 rw [hβ'] at hc'
 cases hc'
 refine⟨cs,ty,by rw [hw];exact q1,Nat.le_refl _,by omega,q4.sub (Nat.le_refl _) (Nat.add_le_add_left (Nat.mul_le_mul_right _ q2) _),fun i row j x hi hj=>?_⟩
 obtain⟨v,v1,v2,v3⟩:=q5 i row j x hi hj
 exact⟨v,v1,v2,v3.step st⟩
theorem qmU {M:Mem} {b sz g g':Nat} {rows:List (List IV)} {c o n:Nat} (h:BRel M b (.arr sz g rows)) (hβ:M.β b=some (c,o,n)) (hn:rows.length < n):
  ∃raw:List Value,raw.length=sz∧ ∀M':Mem,qad M M'→M'.w=M.w→M'.β b=some (c,o,n)→BRel M' b (.arr sz g' (rows++ [raw.map fun v=> .p (.sc v)])):=by
 obtain⟨r1,r2,r3⟩:=h
 obtain⟨cs,ty,q1,q2,q3,q4,q5⟩:=r3 c o n hβ
 have hk:(rows.length+1) * sz≤n * sz:=Nat.mul_le_mul_right _ hn
 rw [Nat.add_mul,Nat.one_mul] at hk
 have hsz:=q4.1
 refine⟨(List.range sz).map fun j=>cs[o+(rows.length * sz+j)]!,by simp,fun M' st hw hβ'=>⟨fun row hrow=>?_,fun hn=>(by rw [hβ'] at hn;cases hn),fun c' o' n' hc'=>?_⟩⟩
 ·rcases List.mem_append.1 hrow with h | h
  ·exact r1 row h
  ·rw [List.mem_singleton.1 h];simp
 ·rw [hβ'] at hc'
  cases hc'
  refine⟨cs,ty,by rw [hw];exact q1,by simp;omega,q3,q4,fun i row j x hi hj=>?_⟩
  rw [List.getElem?_append] at hi
  split at hi
  ·obtain⟨v,v1,v2,v3⟩:=q5 i row j x hi hj
   exact⟨v,v1,v2,v3.step st⟩
  ·have hi0:i - rows.length=0:=by
    have:=qab hi
    simpa using this
   rw [hi0] at hi
   simp only [List.getElem?_cons_zero,Option.some.injEq] at hi
   subst hi
   have hjs:j < sz:=by have:=qab hj;simpa using this
   have hil:i=rows.length:=by omega
   subst hil
   have hlt:o+(rows.length * sz+j) < cs.size:=by omega
   rw [List.getElem?_map,List.getElem?_map,List.getElem?_range hjs] at hj
   simp only [Option.map_some,Option.some.injEq] at hj
   subst hj
   have hget:cs[o+(rows.length * sz+j)]? =some cs[o+(rows.length * sz+j)]! :=by rw [getElem!_pos cs _ hlt,Array.getElem?_eq_getElem hlt]
   exact⟨_,hget,q4.2 _ _ (by omega) hget, .p _ _ (.sc _)⟩
theorem qf8 {t1 t2 ty e:TypeId} {sz by_:Nat} {zs olds:List Value} {i:TypeInfo} {z:Value} {ki:IntKind} (u1:P.underlying t1=some (.slice e)) (u2:P.underlying t2=some (.int ki))
  (inf:P.info? e=some i) (size:i.size=sz) (bytes:i.bytes=by_) (zero:i.zero=some z) (zcl:z.cells=⟨zs⟩) (zl:zs.length=sz)
  {k:IntKind} {sLen sCap n:Nat} {base:Option Addr} {w:World} (ho:(Builtin.firstCells sz sLen (.slice base sLen sCap)).run P w.drew= .ok ⟨olds⟩ w.drew)
  (h0:0 < n) (hgr:sCap < sLen+n) (h63:sLen+n≤maxLen) (hby:(sLen+n) * by_≤140737488355328):
  (Builtin.append_ #[t1,t2] ty #[.slice base sLen sCap, .int k (n:Int)]).run P w=
   .ok (.slice (some ⟨w.heap.size,0,none⟩) (sLen+n) (grownCap w (sLen+n) sCap e))
    (w.drew.alloc (.cells (⟨olds⟩++(if n * sz=0 then #[] else Builtin.zeroCells z.cells n)++Builtin.zeroCells z.cells (grownCap w (sLen+n) sCap e - (sLen+n))) e)):=by
 have hs: ∀w,(sizeOf e).run P w= .ok sz w:=qaz (show tsz P e=some sz by simp [tsz,inf,size])
 have hn: ¬(sLen+n≤sCap):=by omega
 have hfit:=growslice_fits hgr hby
 have h48: ¬(Builtin.nextslicecap (sLen+n) sCap * by_ > 2 ^ 48):=by simp only [Nat.reducePow];omega
 have hmx:IntKind.i64.max=9223372036854775807:=by decide
 have hw:IntKind.i64.wrap (n:Int)=n:=by
  unfold maxLen at h63
  rw [IntKind.wrap_i64];omega
 have hl0: ¬((n:Int) < 0):=by omega
 have hb0: ¬((n:Int) * (by_:Int) > 2 ^ 48):=by
  have h1:(n:Int) * (by_:Int)=((n * by_:Nat):Int):=by simp
  have h2:n * by_≤(sLen+n) * by_:=Nat.mul_le_mul_right _ (by omega)
  rw [h1];omega
 have hti: ∀w,(typeInfo e).run P w= .ok i w:=fun w=>by simp [typeInfo,inf]
 have hze: ∀w,(zeroValue e).run P w= .ok z w:=fun w=>by simp [zeroValue,typeInfo,inf,zero]
 have hch: ∀w,(choose (.appendCap (sLen+n) sCap e)).run P w= .ok (grownCap w (sLen+n) sCap e) w.drew:=fun w=>by simp [Question.forced,grownCap]
 have has: ∀w,(asInt (.int k (n:Int))).run P w= .ok (n:Int) w:=fun w=>by simp [asInt,asIntOf]
 have hgt: ¬(((sLen+n:Nat):Int) > IntKind.i64.max∧(True∨by_=0)):=by
  rw [hmx];unfold maxLen at h63;omega
 unfold Builtin.append_
 simp only [List.getElem?_toArray,List.getElem?_cons_zero,List.getElem?_cons_succ,Sem.run_bind,run_underlying u1,Result.andThen_ok,run_underlying u2,Sem.run_pure,hs,if_true,has,hw,hl0,if_false,hti,bytes,hb0,Int.toNat_natCast,hn,
  hgt,h48,hch,run_askRoom,ho,Bool.not_true,Bool.false_eq_true]
 by_cases hz:n * sz=0
 ·simp only [hz,if_true,if_false,hn,hgt,Sem.run_pure,Result.andThen_ok,Sem.run_bind,hti,bytes,h48,hch,run_askRoom,ho,hze,newRow,run_newObj,World.alloc_eq,World.size_drew]
 ·simp only [hz,if_true,if_false,hn,hgt,Sem.run_pure,Result.andThen_ok,Sem.run_bind,hti,bytes,h48,hch,run_askRoom,ho,hze,newRow,run_newObj,World.alloc_eq,World.size_drew]
theorem qmB {ro:Option Nat} {all:Array Oper} {y x:Operand} {t1 t2 ty e:TypeId} {pos:String} {aft:Array Edge} {dst:Option Tmp} {r:List Oper} {S:qaa} {M:Mem} {a:Act} {Qx:Exit→Act→World→Prop}
  {b g c o i k sz by_:Nat} {rows:List (List IV)} {zs:List Value} {ki kj:IntKind} (hr:SRel h0 S M a) (hy:ev S.s y=some (.ref b g 0 i)) (hx:ev S.s x=some (sci kj (k:Int))) (hb:look (S.l++h0.m) b=some (.arr sz g rows))
  (hβ:M.β b=some (c,o,rows.length)) (ht1:tel P t1=some e) (ht2:P.underlying t2=some (.int ki)) (hsz:tsz P e=some sz) (hby:tby P e=some by_) (hze:tze P e=some zs) (hz1:zs.length=sz) (hz2:zs.all (·.oneCell')=true)
  (hi:i≤rows.length) (hlt:rows.length < i+k) (hk:0 < k) (hbig:(i+k) * by_≤140737488355328) (h63:i+k≤9223372036854775807) (hd:qay S dst=true)
  (h: ∀v M',qad M M'→SRel h0 (S.put dst (.ref S.nx 0 0 (i+k)) (S.nx+1) [(S.nx, .arr sz 0 (rows.take i++List.replicate k (zcs zs)))]) M' (a.put dst v)→wpListIn (Wd ro) 0 P all Qx r (a.put dst v) M'.w):
  wpListIn (Wd ro) 0 P all Qx (⟨dst, .call {callee:= .builtin .append,args:=#[y,x],argTypes:=#[t1,t2]},ty,pos,aft,none⟩::r) a M.w:=by
 refine wpListW_step (.inr rfl) fun K hK=>?_
 rw [if_pos (qaR hr (show qam all S.s ⟨dst,_,ty,pos,aft,none⟩=some true from rfl))]
 have hM:=hr.heap.rel
 have hv:=qau hr.slot hy
 have e2:=(qau hr.slot hx).sc_inv
 have hG:M.H.G b=some (.arr sz g rows):=by rw [hr.heap.G];exact hb
 have hF: ¬M.H.A S.nx:=fun h=>Nat.lt_irrefl _ (hr.heap.A _ h)
 have hok:qco (M.β b) sz rows.length 0 i (a.eval y):=by
  generalize a.eval y=q at hv
  cases hv with
  | ref _ _ _ _ _ hA hv h=>exact(h _ hG).2 rfl
 obtain⟨ad,cap,e1,c1,c2,c3,c4⟩:=hok
 have hcap:cap≤rows.length:=by
  rcases c4 with h | ⟨c',o',n',h1,_,h3⟩
  ·omega
  ·rw [hβ] at h1;cases h1;omega
 cases hinf:P.info? e with
 | none=>simp [tsz,hinf] at hsz
 | some inf=>
   simp only [tsz,tby,tze,hinf,Option.map_some,Option.some.injEq,Option.bind_some] at hsz hby hze
   cases hiz:inf.zero with
   | none=>simp [hiz] at hze
   | some z=>
     simp only [hiz,Option.map_some,Option.some.injEq] at hze
     have hzc:z.cells=⟨zs⟩:=by rw [←hze]
     have hzl:z.cells.size=sz:=by rw [hzc];simpa using hz1
     have s1:=qad.drew M
     have hM1:=hM.drew
     have hap:iapp M.H.G sz (.ref b g 0 i)=some (rows.take i, [(b, .arr sz g rows)]):=by
      simp [iapp,qb1,hG]
     have hRm: ∀p∈ [(b,IBlk.arr sz g rows)],M.H.G p.1=some p.2:=by simp [hG]
     obtain⟨olds,hA⟩:=qbl (P:=P) hap hM1 hRm (hv.step s1)
     have hl:(rows.take i).length=i:=by rw [List.length_take];omega
     have hget:=hA.get
     rw [hl,e1] at hget
     have hnl:=hA.nl
     rw [hl] at hnl
     have hrun:=qf8 (P:=P) (ty:=ty) (und_tel ht1) ht2 hinf hsz hby hiz hzc hz1 (k:=kj) (sLen:=i) (sCap:=cap) (n:=k) (base:=ad) (w:=M.w) hget hk (by omega) (by unfold maxLen;omega) hbig
     have hge:=grownCap_ge M.w (i+k) cap e
     have hmx:=grownCap_le_maxLen M.w (i+k) cap e (by unfold maxLen;omega)
     generalize grownCap M.w (i+k) cap e=C at *
     have hrest:(Builtin.zeroCells z.cells (C - (i+k))).size=(C - (i+k)) * sz:=by rw [←Array.length_toList,qbr,hzl]
     have hnew:(if k * sz=0 then #[] else Builtin.zeroCells z.cells k).size=k * sz:=by
      split
      ·rename_i h0;rw [h0];rfl
      ·rw [←Array.length_toList,qbr,hzl]
     have hz3: ∀u∈z.cells.toList,u.oneCell'=true:=fun u hu=>by
      rw [hzc] at hu
      exact List.all_eq_true.1 hz2 u hu
     have hza:=qci (⟨M.w.drew,M.H,M.β⟩:Mem) hz2
     obtain⟨s2,r2⟩:=qcU hM1 S.nx hF sz 0 C (rows.take i++List.replicate k (zcs zs)) (⟨olds⟩++(if k * sz=0 then #[] else Builtin.zeroCells z.cells k)++Builtin.zeroCells z.cells (C - (i+k))) e
      (by
       intro row hrow
       rcases List.mem_append.1 hrow with h | h
       ·exact hA.wid row h
       ·rw [List.eq_of_mem_replicate h];simpa [zcs] using hz1)
      (by rw [List.length_append,hl,List.length_replicate];exact hge) hmx
      (qa8.all (by
       rw [Array.size_append,Array.size_append,hnew,hrest,List.size_toArray,hnl,←Nat.add_mul,←Nat.add_mul]
       exact Nat.mul_le_mul_right _ (by omega)) (by
       intro v hv
       rw [Array.toList_append,Array.toList_append,List.mem_append,List.mem_append] at hv
       rcases hv with (h | h) | h
       ·exact hA.one v h
       ·split at h
        ·simp at h
        ·exact zeroCells_one hz3 v h
       ·exact zeroCells_one hz3 v h))
      (by
       have key:=qeY (M:= {M with w:=M.w.drew}) (rs:=rows.take i) (rx:=List.replicate k (zcs zs)) (sz:=sz) (o':=0) (a:=⟨olds⟩++(if k * sz=0 then #[] else Builtin.zeroCells z.cells k)++Builtin.zeroCells z.cells (C - (i+k)))
        (by
         intro i' row j y hi hj
         obtain⟨u,u1,u2,u3⟩:=hA.rel i' row j y hi hj
         refine⟨u,?_,u2,u3⟩
         have hlt:=qab u1
         rw [Nat.zero_add,Array.getElem?_append,if_pos (by simp only [Array.size_append,List.size_toArray];omega),Array.getElem?_append,if_pos (by simpa using hlt)]
         simpa using u1)
        (by
         intro i' row j y hi' hj
         have hi2:i' < k:=by have:=qab hi';simpa using this
         rw [List.getElem?_replicate,if_pos hi2] at hi'
         cases hi'
         obtain⟨v,v1,v2,v3⟩:=hza.get hj
         have hjl:j < zs.length:=qab v1
         refine⟨v,?_,v2,v3⟩
         have hlt:i' * sz+j < k * sz:=qbQ hi2 (by omega)
         rw [hl,Nat.zero_add,Array.getElem?_append,if_pos (by simp only [Array.size_append,List.size_toArray,hnew,hnl];omega),Array.getElem?_append,if_neg (by simp only [List.size_toArray,hnl];omega),if_neg (by omega),List.size_toArray,hnl,
          Nat.add_sub_cancel_left,←Array.getElem?_toList,qcp (by rw [hzl];exact hlt),hzl,Nat.mul_comm,Nat.mul_add_mod,Nat.mod_eq_of_lt (by omega),hzc]
         simpa using v1)
       intro i' row j y hi hj
       have:=key i' row j y hi hj
       simpa using this)
     have hwp:(execOp a.eval ⟨dst, .call {callee:= .builtin .append,args:=#[y,x],argTypes:=#[t1,t2]},ty,pos,aft,none⟩).run P M.w= .ok (.value (.slice (some ⟨M.w.heap.size,0,none⟩) (i+k) C)) (M.w.drew.alloc (.cells (⟨olds⟩++(if k * sz=0 then #[] else Builtin.zeroCells z.cells k)++Builtin.zeroCells z.cells (C - (i+k))) e)):=by
      simp only [execOp,resolve,invoke,builtin,Sem.run_bind,Sem.run_pure,Result.andThen_ok,List.map_toArray,List.map_cons,List.map_nil,e1,e2,hrun]
     unfold Oper.wp
     rw [hwp]
     have st:=s1.trans s2
     refine hK _ _ (h _ _ st (hr.step st hd (.ref S.nx 0 0 (i+k) _ (.inr rfl) ⟨_,_,rfl⟩ fun blk hblk=>?_) ?_))
     ·simp only [AH.put,if_true,Option.some.injEq] at hblk
      subst hblk
      exact⟨Nat.le_refl _,fun _=>⟨_,C,rfl,hge,by simp [IBlk.len,hl],by simp [IBlk.len,hl];exact hge, .inr ⟨M.w.heap.size,0,C,by simp [putβ],by simp,by omega⟩⟩⟩
     ·have:=hr.heap.upd r2 (W:= [(S.nx, .arr sz 0 (rows.take i++List.replicate k (zcs zs)))]) rfl (S.nx+1) (fun b hb=>by
       rcases hb with hb | ⟨blk,hb⟩
       ·omega
       ·simp only [List.mem_singleton,Prod.mk.injEq] at hb;omega)
      rw [List.append_assoc]
      exact this
theorem qkQ (n:Nat) {Q:Exit→qaa→Prop} {k:List It} {all:Array Oper} {r:List Oper} {dst:Option Tmp} {ty:TypeId} {pos:String} {aft:Array Edge} {N:Nat} {s:List (Nat × IV)} {d:List IDef} {nx:Nat} {l:List (Nat × IBlk)}
  {f x y:Operand} {ts:Array TypeId} {F:FuncId} {fn:Func} {T T' e:TypeId} {b1 g1 off1 len1 b2 g2 off2 len2 sz s1 s2:Nat} {rows1 rows2:List (List IV)}
  (hf:ev s f=some (.p (.sc (.func (.func F) #[] #[])))) (hfn:P.funcs[F]? =some fn) (hname:(fn.name== "runtime.NumGoroutine")=false) (hbody:fn.body.isNone=true) (hnx:Extern.findNext fn=none)
  (he:Extern.find fn=some (Extern.SlicesOverlaps.overlaps #[T,T] #[T'])) (ht:tel P T=some e) (hsz:tsz P e=some sz)
  (hx:ev s x=some (.ref b1 g1 off1 len1)) (hy:ev s y=some (.ref b2 g2 off2 len2)) (hne:b1≠b2) (hl1:0 < len1) (hl2:0 < len2) (hsz0:0 < sz)
  (hb1:look (l++h0.m) b1=some (.arr s1 g1 rows1)) (hb2:look (l++h0.m) b2=some (.arr s2 g2 rows2)) (hs2:s2=sz) (hd:dOk N dst=true)
  (h:vc P h0 Q n (.ops all r::k) ⟨N,putS dst (scb false) s,d,nx,l⟩):
  IRun P h0 (.ops all (⟨dst, .call {callee:= .value f,args:=#[x,y],argTypes:=ts},ty,pos,aft,none⟩::r)::k) ⟨N,s,d,nx,l⟩ Q:=by
 intro M0 hM0 M a hs hr ro hro
 refine wpListW_step (hro.mem (List.mem_cons_self ..)) fun K hK=>?_
 rw [if_pos (qaR hr (show qam all s ⟨dst,_,ty,pos,aft,none⟩=some true from rfl))]
 have hM:=hr.heap.rel
 have ef:=(qau hr.slot hf).sc_inv
 have vx:=qau hr.slot hx
 have vy:=qau hr.slot hy
 have G1:M.H.G b1=some (.arr s1 g1 rows1):=by rw [hr.heap.G];exact hb1
 have G2:M.H.G b2=some (.arr s2 g2 rows2):=by rw [hr.heap.G];exact hb2
 have ok1:qco (M.β b1) s1 rows1.length off1 len1 (a.eval x):=by
  generalize a.eval x=q at vx
  cases vx with
  | ref _ _ _ _ _ hA hv h=>exact(h _ G1).2 rfl
 have ok2:qco (M.β b2) s2 rows2.length off2 len2 (a.eval y):=by
  generalize a.eval y=q at vy
  cases vy with
  | ref _ _ _ _ _ hA hv h=>exact(h _ G2).2 rfl
 obtain⟨a1,cap1,e1,p1,p2,p3,p4⟩:=ok1
 obtain⟨a2,cap2,e2,q1,q2,q3,q4⟩:=ok2
 obtain⟨c1,o1,n1,B1,A1,C1⟩:=p4.resolve_left (by omega)
 obtain⟨c2,o2,n2,B2,A2,C2⟩:=q4.resolve_left (by omega)
 obtain⟨_,_,w1⟩:=hM.blk b1 _ G1
 obtain⟨_,_,w2⟩:=hM.blk b2 _ G2
 obtain⟨cs1,ty1,H1,_,_,R1,_⟩:=w1 c1 o1 n1 B1
 obtain⟨cs2,ty2,H2,_,_,R2,_⟩:=w2 c2 o2 n2 B2
 have hcc:c1≠c2:=fun e=>hne (hM.inj _ _ _ _ c1 o1 n1 o2 n2 G1 G2 B1 (e ▸B2))
 have hk2:cs2.size≠0:=by
  have h1:=R2.1
  have:1 * sz≤n2 * sz:=Nat.mul_le_mul_right _ (by omega)
  rw [←hs2] at this
  omega
 have hrun:(callFunc F #[a.eval x,a.eval y]).run P M.w= .ok (.value (.bool false)) M.w:=by
  rw [run_callFunc_extern hfn hname hbody hnx he,e1,e2,A1,A2,
   Lib.run_overlaps_apart M.w T T' e (und_tel ht) sz (qaz hsz) _ _ _ _ _ _ (by simpa using hcc) ty1 ty2 cs1.size cs2.size (by simp [World.shape?,H1]) (by simp [World.shape?,H2]) hk2 (by simp [World.frozen?,H1]) (by simp [World.frozen?,H1])]
  rfl
 have hwp:(execOp a.eval ⟨dst, .call {callee:= .value f,args:=#[x,y],argTypes:=ts},ty,pos,aft,none⟩).run P M.w= .ok (.value (.bool false)) M.w:=by
  simp only [execOp,resolve,ef,Deferred.ofValue,Sem.run_bind,Sem.run_pure,Result.andThen_ok,invoke]
  simp only [List.append_toArray,List.nil_append,Array.append_empty,List.map_toArray,List.map_cons,List.map_nil,Array.empty_append]
  rw [hrun]
 unfold Oper.wp
 rw [hwp]
 have hd':qay ⟨N,s,d,nx,l⟩ dst=true:=by cases dst<;>simp_all [dOk,qay]
 have hr':=hr.step (.refl M) hd' (.p _ _ (.sc (.bool false)):VRel M (scb false) (.bool false)) (W:= []) (nx:=nx) hr.heap
 rw [qaJ] at hr'
 exact hK _ _ (vc_sound Q n _ _ h M0 hM0 M _ hs hr' ro hro.tl)
theorem qnT {S:qaa} (b t g':Nat) {sz g len:Nat} {rows:List (List IV)} (hb:look (S.l++h0.m) b=some (.arr sz g rows)) (ht:look S.s t=some (.ref b g 0 len)) (hg:g < g'):
  Gho h0 S ⟨S.n,(t, .ref S.nx 0 0 len)::S.s,S.d,S.nx+1,(b, .arr sz g' [])::(S.nx, .arr sz 0 rows)::S.l⟩:=by
 intro M a hr
 have hM:=hr.heap.rel
 have hA: ¬M.H.A S.nx:=fun h=>Nat.lt_irrefl _ (hr.heap.A _ h)
 have hG:M.H.G b=some (.arr sz g rows):=by rw [hr.heap.G];exact hb
 have hAb:=hM.dom _ _ hG
 have hne:b≠S.nx:=fun e=>hA (e ▸hAb)
 have hGn:M.H.G S.nx=none:=by
  cases h:M.H.G S.nx with
  | none=>rfl
  | some x=>exact absurd (hM.dom _ _ h) hA
 let M':Mem:=⟨M.w,(M.H.put S.nx (.arr sz 0 rows)).put b (.arr sz g' []),fun k=>if k=b then none else if k=S.nx then M.β b else M.β k⟩
 have G': ∀k,M'.H.G k=if k=b then some (.arr sz g' []) else if k=S.nx then some (.arr sz 0 rows) else M.H.G k:=fun k=>rfl
 have β': ∀k,M'.β k=if k=b then none else if k=S.nx then M.β b else M.β k:=fun k=>rfl
 have own': ∀c,M'.own c→M.own c:=by
  rintro c (h | ⟨k,blk,o,n,h1,h2⟩)
  ·exact .inl h
  ·rw [G'] at h1;rw [β'] at h2
   by_cases e:k=b
   ·rw [if_pos e] at h2;cases h2
   ·rw [if_neg e] at h1 h2
    by_cases e2:k=S.nx
    ·rw [if_pos e2] at h1 h2
     exact .inr ⟨b,_,o,n,hG,h2⟩
    ·rw [if_neg e2] at h1 h2
     exact .inr ⟨k,blk,o,n,h1,h2⟩
 have st:qad M M':=by
  refine⟨rfl,rfl,rfl,Nat.le_refl _,fun c _ ho=>⟨rfl,fun h=>ho (own' c h)⟩,fun k hk=> .inl (.inl hk),fun k blk' hk hb'=>?_,rfl,fun _ _=>rfl⟩
  rw [G'] at hb'
  have e2:k≠S.nx:=fun e=>hA (e ▸hk)
  by_cases e:k=b
  ·subst e
   rw [if_pos rfl] at hb'
   cases hb'
   exact⟨_,hG,rfl,rfl,Nat.le_of_lt hg,fun e=>by simp only [IBlk.gen] at e;omega⟩
  ·rw [if_neg e,if_neg e2] at hb'
   exact⟨blk',hb',rfl,rfl,Nat.le_refl _,fun _=>⟨by rw [β',if_neg e,if_neg e2],rfl⟩⟩
 have rel:MRel M':=by
  refine⟨fun k blk hk=>?_,fun k blk hk=>?_,fun k k' blk blk' c o n o' n' h1 h2 c1 c2=>?_,hM.olt,fun k blk c o n h1 c1=>?_⟩
  ·rw [G'] at hk
   by_cases e:k=b
   ·subst e;exact .inl (.inl hAb)
   ·rw [if_neg e] at hk
    by_cases e2:k=S.nx
    ·exact .inl (.inr e2)
    ·rw [if_neg e2] at hk;exact .inl (.inl (hM.dom _ _ hk))
  ·rw [G'] at hk
   by_cases e:k=b
   ·subst e
    rw [if_pos rfl] at hk;cases hk
    exact⟨by simp,fun _=>rfl,fun c o n hc=>by rw [β',if_pos rfl] at hc;cases hc⟩
   ·rw [if_neg e] at hk
    by_cases e2:k=S.nx
    ·subst e2
     rw [if_pos rfl] at hk;cases hk
     obtain⟨r1,r2,r3⟩:=hM.blk b _ hG
     have hβ:M'.β S.nx=M.β b:=by rw [β',if_neg e,if_pos rfl]
     refine⟨r1,fun hn=>r2 (by rw [←hβ];exact hn),fun c o n hc=>?_⟩
     rw [hβ] at hc
     obtain⟨cs,ty,q1,q2,q3,q4,q5⟩:=r3 c o n hc
     refine⟨cs,ty,q1,q2,q3,q4,fun i row j x hi hj=>?_⟩
     obtain⟨v,v1,v2,v3⟩:=q5 i row j x hi hj
     exact⟨v,v1,v2,v3.step st⟩
    ·rw [if_neg e2] at hk
     exact BRel.step st (by rw [β',if_neg e,if_neg e2]) (fun c o n _=>rfl) (hM.blk k blk hk)
  ·rw [G'] at h1 h2
   rw [β'] at c1 c2
   by_cases e:k=b
   ·rw [if_pos e] at c1;cases c1
   by_cases e':k'=b
   ·rw [if_pos e'] at c2;cases c2
   rw [if_neg e] at h1 c1
   rw [if_neg e'] at h2 c2
   by_cases f:k=S.nx
   ·by_cases f':k'=S.nx
    ·rw [f,f']
    ·rw [if_pos f] at c1
     rw [if_neg f'] at h2 c2
     exact absurd (hM.inj _ _ _ _ c o n o' n' hG h2 c1 c2) (fun q=>e' q.symm)
   ·rw [if_neg f] at h1 c1
    by_cases f':k'=S.nx
    ·rw [if_pos f'] at c2
     exact absurd (hM.inj _ _ _ _ c o n o' n' h1 hG c1 c2) e
    ·rw [if_neg f'] at h2 c2
     exact hM.inj _ _ _ _ c o n o' n' h1 h2 c1 c2
  ·rw [G'] at h1
   rw [β'] at c1
   by_cases e:k=b
   ·rw [if_pos e] at c1;cases c1
   rw [if_neg e] at h1 c1
   by_cases f:k=S.nx
   ·rw [if_pos f] at c1
    exact hM.odis _ _ c o n hG c1
   ·rw [if_neg f] at h1 c1
    exact hM.odis _ _ c o n h1 c1
 refine⟨M',rfl,st,⟨⟨rel,fun k hk=>?_,fun k=>?_⟩,hr.size,fun i y hy=>?_,hr.defs.step st⟩⟩
 ·rcases hk with (hk | hk) | hk
  ·exact Nat.lt_succ_of_lt (hr.heap.A _ hk)
  ·rw [hk];exact Nat.lt_succ_self _
  ·rw [hk];exact Nat.lt_succ_of_lt (hr.heap.A _ hAb)
 ·rw [G']
  simp only [List.cons_append,look]
  by_cases e:k=b
  ·subst e;simp
  ·have e': ¬b=k:=fun h=>e h.symm
   simp only [if_neg e,if_neg e']
   by_cases e2:k=S.nx
   ·simp only [if_pos e2,if_pos e2.symm]
   ·have e2': ¬S.nx=k:=fun h=>e2 h.symm
    simp only [if_neg e2,if_neg e2'];exact hr.heap.G k
 ·simp only [look] at hy
  split at hy
  ·rename_i e
   subst e
   cases hy
   obtain⟨v,v1,v2⟩:=hr.slot _ _ ht
   have hok:qco (M.β b) sz rows.length 0 len v:=by
    cases v2 with
    | ref _ _ _ _ _ hA hv h=>exact(h _ hG).2 rfl
   obtain⟨ad,cap,e1,_⟩:=id hok
   refine⟨v,v1, .ref S.nx 0 0 len v (.inl (.inr rfl)) ⟨ad,cap,e1⟩ fun blk hblk=>?_⟩
   rw [G',if_neg (fun h=>hne h.symm),if_pos rfl] at hblk
   cases hblk
   exact⟨Nat.le_refl _,fun _=>by rw [β',if_neg (fun h=>hne h.symm),if_pos rfl];exact hok⟩
  ·obtain⟨u,u1,u2⟩:=hr.slot i y hy
   exact⟨u,u1,u2.step st⟩
theorem qpJ {ro:Option Nat} {all:Array Oper} {y:Operand} {ty:TypeId} {pos:String} {aft:Array Edge} {dst:Option Tmp} {r:List Oper} {S:qaa} {M:Mem} {a:Act} {Qx:Exit→Act→World→Prop} {z:IV}
  (hr:SRel h0 S M a) (hy:ev S.s y=some z) (hd:qay S dst=true) (h:SRel h0 (S.put dst z S.nx []) M (a.put dst (a.eval y))→wpListIn (Wd ro) 0 P all Qx r (a.put dst (a.eval y)) M.w):
  wpListIn (Wd ro) 0 P all Qx (⟨dst, .move y,ty,pos,aft,none⟩::r) a M.w:=by
 refine wpListW_step (.inr rfl) fun K hK=>?_
 rw [if_pos (qaR hr (show qam all S.s ⟨dst,_,ty,pos,aft,none⟩=some true from rfl))]
 have hwp:(execOp a.eval ⟨dst, .move y,ty,pos,aft,none⟩).run P M.w= .ok (.value (a.eval y)) M.w:=by simp [execOp]
 unfold Oper.wp
 rw [hwp]
 exact hK _ _ (h (hr.step (.refl M) hd (qau hr.slot hy) hr.heap))
theorem qcy {a:Act} {d t:Nat} {v:Value} (h:t≠d):(a.put (some d) v).tmps[t]? =a.tmps[t]? :=by
 simp only [Act.put]
 rw [Array.getElem?_setIfInBounds_ne (fun e=>h e.symm)]
theorem qot {a:Act} {d:Nat} {v:Value} (h:d < a.tmps.size):(a.put (some d) v).tmps[d]? =some v:=by
 simp only [Act.put]
 rw [Array.getElem?_setIfInBounds_self_of_lt h]
theorem qjO {a:Act} {t:Nat} {v:Value} (h:a.tmps[t]? =some v):a.eval (.tmp t)=v:=by
 simp [Act.eval,h]
theorem qj4 {S S':qaa} {M M':Mem} {a a':Act} (hr:SRel h0 S M a) (st:qad M M') (hr':SRel h0 S' M' a') {b:Nat} {blk:IBlk} (h:look (S.l++h0.m) b=some blk) (h':look (S'.l++h0.m) b=some blk):M'.β b=M.β b:=by
 have hG:M.H.G b=some blk:=by rw [hr.heap.G];exact h
 exact keep_β st (hr.heap.rel.dom _ _ hG) hG (by rw [hr'.heap.G];exact h')
theorem qlZ (n:Nat) {Q:Exit→qaa→Prop} {k:List It} {all:Array Oper} {r:List Oper} {dst:Option Tmp} {ty T e:TypeId} {pos:String} {aft:Array Edge} {N:Nat} {s:List (Nat × IV)} {d:List IDef} {nx:Nat} {l:List (Nat × IBlk)}
  {x y:Operand} {kj:IntKind} {b g off len h sz:Nat} {rows:List (List IV)} (ht:tel P T=some e) (hsz:tsz P e=some sz) (hx:ev s x=some (.ref b g off len)) (hy:ev s y=some (sci kj (h:Int)))
  (hb:look (l++h0.m) b=some (.arr sz g rows)) (hle:off+h≤rows.length) (hd:dOk N dst=true)
  (hk:vc P h0 Q n (.ops all r::k) ⟨N,putS dst (.ref b g off h) s,d,nx,l⟩):
  IRun P h0 (.ops all (⟨dst, .slice T x none (some y) none,ty,pos,aft,none⟩::r)::k) ⟨N,s,d,nx,l⟩ Q:=by
 intro M0 hM0 M a hs hr ro hro
 refine wpListW_step (hro.mem (List.mem_cons_self ..)) fun K hK=>?_
 rw [if_pos (qaR hr (show qam all s ⟨dst,_,ty,pos,aft,none⟩=some true from rfl))]
 have hM:=hr.heap.rel
 have hv:=qau hr.slot hx
 have hvy:=qau hr.slot hy
 have hG:M.H.G b=some (.arr sz g rows):=by rw [hr.heap.G];exact hb
 have hok:qco (M.β b) sz rows.length off len (a.eval x):=by
  generalize a.eval x=q at hv
  cases hv with
  | ref _ _ _ _ _ hA hv h=>exact(h _ hG).2 rfl
 obtain⟨ad,cap,e1,c1,c2,c3,c4⟩:=hok
 have hbd: ∀code,(Instr.sliceBound (a.eval y) cap code).run P M.w= .ok h M.w:=fun code=>
  (qaD (P:=P) (M:=M) (i:=sci kj (h:Int)) (y:=rows.length - off) (d:=0) (k:=h) (code:=code) (by simp only [sbd,sci];rw [if_pos (by omega)];simp) hvy cap (by omega) M.w).1
 have hrun:(Instr.sliceBounds true len cap none (some (a.eval y)) none).run P M.w= .ok (0,h,cap) M.w:=by
  unfold Instr.sliceBounds
  simp [hbd]
 have hrun2:=qa1 (P:=P) ht hsz (a:=ad) hrun
 have hwp:(execOp a.eval ⟨dst, .slice T x none (some y) none,ty,pos,aft,none⟩).run P M.w= .ok (.value (.slice (if cap=0 then ad else ad.map (·.add (0 * sz))) (h - 0) (cap - 0))) M.w:=by
  simp only [execOp,e1,Option.map_some,Option.map_none];rw [Sem.run_bind,hrun2];rfl
 unfold Oper.wp
 rw [hwp]
 have hd':qay ⟨N,s,d,nx,l⟩ dst=true:=by cases dst<;>simp_all [dOk,qay]
 have hvr:VRel M (.ref b g off h) (.slice (if cap=0 then ad else ad.map (·.add (0 * sz))) (h - 0) (cap - 0)):=by
  refine .ref b g off h _ (hM.dom _ _ hG) ⟨_,_,rfl⟩ fun blk hblk=>?_
  rw [hG] at hblk;cases hblk
  refine⟨Nat.le_refl _,fun _=>⟨_,_,rfl,by omega,by simp only [IBlk.len];omega,by simp only [IBlk.len];omega,?_⟩⟩
  rcases c4 with c4 | ⟨c,o',n',q5,q6,q7⟩
  ·exact .inl (by omega)
  ·by_cases hcl:cap=0
   ·exact .inl (by omega)
   ·refine .inr ⟨c,o',n',q5,?_,by omega⟩
    rw [if_neg hcl,q6]
    simp only [Option.map_some,qaZ,IBlk.sz]
    congr 2
    omega
 have hr':=hr.step (.refl M) hd' hvr (W:= []) (nx:=nx) hr.heap
 rw [qaJ] at hr'
 exact hK _ _ (vc_sound Q n _ _ hk M0 hM0 M _ hs hr' ro hro.tl)
end Go.Idl
/-
 A literal of its own in a region that draws its order.
-/
namespace Go.Idl
variable {P:Program} {h0:IH}
theorem qpg {o:Oper} {ρ:Operand→Option IV} {nx:Nat} {t:TypeId} {len:Nat} {parts:List (Nat × Operand)} {zs:List (Nat × IV)} {sz:Nat} {cs:List IV} (ho:o.op= .buildSlice t len ⟨parts⟩) (hz:rparts ρ parts=some zs)
  (hl:flit P t len zs=some (sz,cs)):qa7 P o ρ [] [nx] (.ref nx 0 0 len) [(nx, .arr sz 0 (chunk sz len cs))]:=by
 obtain⟨hcl,hlm,e,hrun⟩:=run_lit hl
 have:({x:= .ref nx 0 0 len,F:= [nx],W:= [(nx, .arr sz 0 (chunk sz len cs))]}:FR).ok P o ρ:=by
  refine .does fun M a hM _ hF hr=>?_
  obtain⟨l1,l2⟩:=qcL (M:=M) (a:=a) hz fun p hp=>hr p.2 (by
   simp only [ho,Op.operands];simp;exact⟨p.1,hp⟩)
  obtain⟨vs,g1,g2⟩:=hrun M (parts.map fun p=>(p.1,a.eval p.2)) l1 l2
  have hvl:=g1.len
  obtain⟨s,r⟩:=qcU hM nx (hF nx (by simp)) sz 0 len (chunk sz len cs) ⟨vs⟩ e (chunk_wid hcl) (by simp [chunk]) hlm (qa8.all (by simp [hvl,hcl]) (by simpa using g1.one)) (by
   intro i row j x hi hj
   obtain⟨_,_,hy⟩:=qe2 hi hj
   obtain⟨u,u1,u2,u3⟩:=g1.get hy
   exact⟨u,by simpa using u1,u2,u3⟩)
  refine⟨.slice (some ⟨M.w.heap.size,0,none⟩) len len,_,?_,s,r,rfl,?_⟩
  ·simp only [execOp,ho,Sem.run_bind]
   have e:(Array.map (fun x=>(x.1,a.eval x.2)) ⟨parts⟩:Array (Nat × Value))=⟨parts.map fun p=>(p.1,a.eval p.2)⟩:=by simp
   rw [show(Array.map (fun x:Nat × Operand=>match x with | (i,x)=>(i,a.eval x)) ⟨parts⟩:Array (Nat × Value))=⟨parts.map fun p=>(p.1,a.eval p.2)⟩ from e,g2]
   rfl
  ·refine .ref nx 0 0 len _ (.inr rfl) ⟨_,_,rfl⟩ fun blk hblk=>?_
   simp only [AH.put,if_true,Option.some.injEq] at hblk
   subst hblk
   refine⟨Nat.le_refl _,fun _=>⟨_,_,rfl,by omega,by simp [IBlk.len,chunk],by simp [IBlk.len,chunk], .inr ⟨M.w.heap.size,0,len,by simp [putβ],by simp,by omega⟩⟩⟩
 exact this
theorem qnK {all:Array Oper} {dst:Option Tmp} {t ty:TypeId} {len:Nat} {parts:List (Nat × Operand)} {pos:String} {aft:Array Edge} {g:Option (Nat × Bool)} {zs:List (Nat × IV)} {sz:Nat} {cs:List IV} {r:List Oper} {S:qaa} {acc:List FP} {K:qaa→List FP→Prop}
  (hw:qam all S.s ⟨dst, .buildSlice t len ⟨parts⟩,ty,pos,aft,g⟩=some true) (hz:rparts (ev S.s) parts=some zs) (hl:flit P t len zs=some (sz,cs)) (hd:dOk S.n dst=true)
  (h:DRun P h0 all r ⟨S.n,putS dst (.ref S.nx 0 0 len) S.s,S.d,S.nx+1,(S.nx, .arr sz 0 (chunk sz len cs))::S.l⟩ (acc++ [([], [S.nx])]) K):
  DRun P h0 all (⟨dst, .buildSlice t len ⟨parts⟩,ty,pos,aft,g⟩::r) S acc K:=by
 obtain⟨frs,S',h1,h2⟩:=h
 refine⟨{x:= .ref S.nx 0 0 len,F:= [S.nx],W:= [(S.nx, .arr sz 0 (chunk sz len cs))]}::frs,S', .op hw (qa7.loc (qpg rfl hz hl)) ?_ hd (by simpa using h1),by simpa [FR.fp] using h2⟩
 exact FR.fits.G ⟨by simp, .inr ⟨rfl,_,rfl⟩⟩
theorem qg5 {ops:List Oper} {id n:Nat} {k:List It} {S:qaa} {Q:Exit→qaa→Prop} (u:List (Option (List Nat))) (hm:P.follows .mixedOrders=true) (hst:stat ops u=true)
  (h:DRun P h0 ops.toArray ops S [] (fun S' fps=>chk u fps∧vc P h0 Q n k S')):IRun P h0 (.code (.region id ops.toArray true)::k) S Q:=by
 obtain⟨frs,S',h1,h2,h3⟩:=h
 exact qeF hm hst h1 (by simpa using h2) (vc_sound Q n k S' h3)
theorem qaE.app {all:Array Oper} {l1 l2:List Oper} {S S1 S2:qaa} {f1 f2:List FR} (h1:qaE P h0 all l1 S f1 S1) (h2:qaE P h0 all l2 S1 f2 S2):qaE P h0 all (l1++l2) S (f1++f2) S2:=by
 induction h1 with
 | nil S=>exact h2
 | op hw hl hf hd _ ih=>exact .op hw hl hf hd (ih h2)
 | skip hw hd _ ih=>exact .skip hw hd (ih h2)
theorem qgP (k:Nat) {all:Array Oper} {l:List Oper} {S:qaa} {acc:List FP} {K:qaa→List FP→Prop} (h:dvc P h0 all (fun S acc=>DRun P h0 all (l.drop k) S acc K) (l.take k) S acc):DRun P h0 all l S acc K:=by
 obtain⟨f1,S1,h1,f2,S2,h2,h3⟩:=dvc_sound _ _ _ h
 refine⟨f1++f2,S2,by simpa using h1.app h2,by simpa using h3⟩
end Go.Idl
