/-
 Families of blocks: a list of lists of which each row is held.
-/
import Derived.Test.YtnbhjoopcaaafaaGreatIdGr
set_option linter.unusedSimpArgs false
set_option linter.unusedVariables false
namespace Go.Idl
variable {P:Program} {h0:IH}
def refsR {β:Type}:Nat→List (Nat × List β)→List (List IV)
 | _, []=> []
 | k,x::r=> [.ref k x.1 0 x.2.length]::refsR (k+1) r
def famB {β:Type} (sz:Nat) (e:β→List PV) (xs:List (Nat × List β)):List IBlk:=xs.map fun x=> .arr sz x.1 (ir e x.2)
def freshF {β:Type} (l:List (List β)):List (Nat × List β):=l.map fun x=>(0,x)
section
variable {β:Type} {k k' n sz g:Nat} {e:β→List PV} {xs:List (Nat × List β)} {ρ:Nat→Nat}
theorem refsR_len: ∀ {xs:List (Nat × List β)} {k:Nat},(refsR k xs).length=xs.length
 | [],_=>rfl
 | x::r,k=>by simp only [refsR,List.length_cons,refsR_len]
theorem refsR_get: ∀ {xs:List (Nat × List β)} {k i:Nat} (h:i < xs.length),(refsR k xs)[i]? =some [.ref (k+i) xs[i].1 0 xs[i].2.length]
 | x::r,k,0,_=>rfl
 | x::r,k,i+1,h=>by
   have:=refsR_get (xs:=r) (k:=k+1) (i:=i) (by simpa using h)
   simp only [refsR,List.getElem?_cons_succ,this,List.getElem_cons_succ]
   rw [show k+1+i=k+(i+1) by omega]
theorem refsR_set: ∀ {xs:List (Nat × List β)} {k i:Nat} {x:Nat × List β} (_:i < xs.length),(refsR k xs).set i [.ref (k+i) x.1 0 x.2.length]=refsR k (xs.set i x)
 | y::r,k,0,x,_=>rfl
 | y::r,k,i+1,x,h=>by
   have:=refsR_set (xs:=r) (k:=k+1) (i:=i) (x:=x) (by simpa using h)
   simp only [refsR,List.set_cons_succ]
   rw [←this,show k+1+i=k+(i+1) by omega]
theorem refsR_snoc: ∀ {xs:List (Nat × List β)} {k:Nat} {x:Nat × List β},refsR k (xs++ [x])=refsR k xs++ [[.ref (k+xs.length) x.1 0 x.2.length]]
 | [],k,x=>rfl
 | y::r,k,x=>by
   simp only [List.cons_append,refsR,refsR_snoc (xs:=r),List.length_cons]
   rw [show k+1+r.length=k+(r.length+1) by omega]
theorem rnRw_refsR: ∀ {xs:List (Nat × List β)} {k k':Nat},(∀i,i < xs.length→ρ (k+i)=k'+i)→rnRw ρ (refsR k xs)=refsR k' xs
 | [],_,_,_=>rfl
 | x::r,k,k',h=>by
   have:=rnRw_refsR (xs:=r) (k:=k+1) (k':=k'+1) fun i hi=>by
    have:=h (i+1) (by simpa using hi)
    rw [show k+1+i=k+(i+1) by omega,this];omega
   simp only [refsR,rnRw_cons,this,rnms,rnm]
   rw [show ρ k=k' from h 0 (by simp)]
theorem rowsBel_refsR: ∀ {xs:List (Nat × List β)} {k:Nat},(k+xs.length≤n)→rowsBel n (refsR k xs)
 | [],_,_=>trivial
 | x::r,k,h=>by
   simp only [List.length_cons] at h
   exact⟨by simp [bels,bel];omega,rowsBel_refsR (by omega)⟩
theorem famB_len:(famB sz e xs).length=xs.length:=by simp [famB]
theorem famB_get {i:Nat} (h:i < xs.length):(famB sz e xs)[i]? =some (.arr sz xs[i].1 (ir e xs[i].2)):=by simp [famB,h]
theorem enumB_app: ∀ {L K:List IBlk} {k:Nat},enumB k (L++K)=enumB k L++enumB (k+L.length) K
 | [],K,k=>rfl
 | x::L,K,k=>by
   simp only [List.cons_append,enumB,enumB_app (L:=L),List.length_cons]
   rw [show k+1+L.length=k+(L.length+1) by omega]
theorem enumB_mem: ∀ {L:List IBlk} {k:Nat} {p:Nat × IBlk},p∈enumB k L→ ∃i,∃h:i < L.length,p.1=k+i∧p.2=L[i]
 | [],k,p,h=>by cases h
 | x::L,k,p,h=>by
   simp only [enumB,List.mem_cons] at h
   rcases h with rfl | h
   ·exact⟨0,by simp,rfl,rfl⟩
   ·obtain⟨i,hi,e1,e2⟩:=enumB_mem h
    exact⟨i+1,by simpa using hi,by omega,by simpa using e2⟩
theorem look_fam_in {L:List IBlk} {k i:Nat} {r:List (Nat × IBlk)} (h:i < L.length):look (enumB k L++r) (k+i)=some L[i]:=by
 rw [look_append,look_enumB];simp [h]
theorem look_fam {k i:Nat} {r:List (Nat × IBlk)} (h:i < xs.length):look (enumB k (famB sz e xs)++r) (k+i)=some (.arr sz xs[i].1 (ir e xs[i].2)):=by
 rw [look_append,look_enumB,if_pos (by omega),Nat.add_sub_cancel_left,famB_get h]
theorem look_fam_out {L:List IBlk} {k b:Nat} {r:List (Nat × IBlk)} (h:b < k∨k+L.length≤b):look (enumB k L++r) b=look r b:=by
 rw [look_append,look_enumB]
 by_cases hk:k≤b
 ·rw [if_pos hk,List.getElem?_eq_none (by omega)]
 ·rw [if_neg hk]
theorem look_famo {b:Nat} {r:List (Nat × IBlk)} (h:b < k∨k+xs.length≤b):look (enumB k (famB sz e xs)++r) b=look r b:=look_fam_out (by rw [famB_len];exact h)
@[go_sem] theorem look_assoc {L:List IBlk} {b:Nat} {r q:List (Nat × IBlk)}:look ((enumB k L++r)++q) b=look (enumB k L++(r++q)) b:=by rw [List.append_assoc]
theorem freshF_len (l:List (List β)):(freshF l).length=l.length:=by simp [freshF]
theorem freshF_snoc (l:List (List β)) (x:List β):freshF (l++ [x])=freshF l++ [(0,x)]:=by simp [freshF]
theorem rnL_fam (h: ∀i,i < xs.length→ρ (k+i)=k'+i):rnL ρ (enumB k (famB sz e xs))=enumB k' (famB sz e xs):=by
 induction xs generalizing k k' with
 | nil=>rfl
 | cons x r ih=>
   have:=ih (k:=k+1) (k':=k'+1) fun i hi=>by
    have:=h (i+1) (by simpa using hi)
    rw [show k+1+i=k+(i+1) by omega,this];omega
   simp only [famB,List.map_cons,enumB,rnL_cons,rnB_arr,rnRw_ir] at this ⊢
   rw [this,show ρ k=k' from h 0 (by simp)]
section
variable {nx a b:Nat}
@[go_sem] theorem rnL_fam0:rnL (ridx [] nx) (enumB k (famB sz e xs))=enumB (nx+k) (famB sz e xs):=rnL_fam fun i _=>by simp [ridx];omega
@[go_sem] theorem rnL_fam1:rnL (ridx [a] nx) (enumB (k+1) (famB sz e xs))=enumB (nx+k) (famB sz e xs):=rnL_fam fun i _=>by rw [ridx_new (by simp;omega)];simp;omega
@[go_sem] theorem rnRw_fam0:rnRw (ridx [] nx) (refsR k xs)=refsR (nx+k) xs:=rnRw_refsR fun i _=>by simp [ridx];omega
@[go_sem] theorem rnRw_fam1:rnRw (ridx [a] nx) (refsR (k+1) xs)=refsR (nx+k) xs:=rnRw_refsR fun i _=>by rw [ridx_new (by simp;omega)];simp;omega
end
@[go_sem] theorem rnL_app {l m:List (Nat × IBlk)}:rnL ρ (l++m)=rnL ρ l++rnL ρ m:=by simp [rnL]
theorem allLow_app {l m:List (Nat × IBlk)}:allLow n (l++m)↔allLow n l∧allLow n m:=by
 induction l with
 | nil=>simp [allLow]
 | cons p l ih=>simp only [List.cons_append,allLow,ih,and_assoc]
theorem allLow_fam (h:k+xs.length≤n):allLow n (enumB k (famB sz e xs)):=by
 induction xs generalizing k with
 | nil=>trivial
 | cons x r ih=>
   simp only [List.length_cons] at h
   refine⟨?_,?_,ih (by omega)⟩
   ·show k < n;omega
   ·show blkBel n (.arr sz x.1 (ir e x.2))
    rw [blkBel_arr,rowsBel_ir];trivial
theorem hasAll_of {W:List (Nat × IBlk)} {c:Nat} (h: ∀i,k≤i→i < k+c→(look W i).isSome=true):hasAll W k c:=by
 induction c with
 | zero=>trivial
 | succ c ih=>exact⟨h _ (by omega) (by omega),ih fun i h1 h2=>h i h1 (by omega)⟩
theorem allBel_fam:allBel n (famB sz e xs):=by
 induction xs with
 | nil=>trivial
 | cons x r ih=>
   refine⟨?_,ih⟩
   show blkBel n (.arr sz x.1 (ir e x.2))
   rw [blkBel_arr,rowsBel_ir];trivial
end
theorem filter_enumB {L:List IBlk} {k b:Nat} (h:b < k∨k+L.length≤b):List.filter (fun q:Nat × IBlk=>q.fst != b) (enumB k L)=enumB k L:=by
 rw [List.filter_eq_self]
 intro p hp
 obtain⟨i,hi,e,_⟩:=enumB_mem hp
 simp only [bne_iff_ne,ne_eq]
 omega
theorem ddp_enumB: ∀ {L:List IBlk} {k:Nat},ddp (enumB k L)=enumB k L
 | [],_=>rfl
 | x::L,k=>by
   show(k,x)::List.filter (fun q:Nat × IBlk=>q.fst != k) (ddp (enumB (k+1) L))=_
   rw [ddp_enumB,filter_enumB (.inl (by omega))];rfl
section
variable {β:Type} {k b sz:Nat} {e:β→List PV} {xs:List (Nat × List β)}
@[go_sem] theorem ddp_fam:ddp (enumB k (famB sz e xs))=enumB k (famB sz e xs):=ddp_enumB
@[go_sem] theorem filter_fam (h:b < k∨k+xs.length≤b):List.filter (fun q:Nat × IBlk=>q.fst != b) (enumB k (famB sz e xs))=enumB k (famB sz e xs):=filter_enumB (by rw [famB_len];exact h)
end
/-! ### cuts -/
section
variable {S:IState} {m:List (Nat × IBlk)} {ids:List Nat} {nx nx0 k:Nat} {L:List IBlk} {r l':List (Nat × IBlk)}
theorem fblksIn_fam (h: ∀i,∀hi:i < L.length,∃z,look (S.l++m) (k+i)=some z∧fwB (look (S.l++m)) ids z L[i]) (hn:nx=S.nx∨k+L.length≤nx∧allBel nx L) (hr:fblksIn S m ids nx r):fblksIn S m ids nx (enumB k L++r):=by
 induction L generalizing k with
 | nil=>exact hr
 | cons x L ih=>
   have h1:=h 0 (by simp)
   obtain⟨z,e1,e2⟩:=h1
   refine⟨?_,?_,ih (k:=k+1) (fun i hi=>?_) ?_⟩
   ·show onSome (look (S.l++m) k) _ _
    rw [Nat.add_zero] at e1
    rw [e1,onSome_some];exact e2
   ·rcases hn with hn | ⟨hn,hb⟩
    ·exact .inl hn
    ·simp only [List.length_cons] at hn
     exact .inr ⟨by show k < nx;omega,hb.1⟩
   ·have:=h (i+1) (by simpa using hi)
    rw [show k+1+i=k+(i+1) by omega];simpa using this
   ·rcases hn with hn | ⟨hn,hb⟩
    ·exact .inl hn
    ·simp only [List.length_cons] at hn
     exact .inr ⟨by omega,hb.2⟩
theorem fblksIn_famc {β:Type} {sz:Nat} {e:β→List PV} {xs:List (Nat × List β)} (hn:nx=S.nx∨k+xs.length≤nx) (h: ∀i,∀hi:i < xs.length,look (S.l++m) (k+i)=some (.arr sz xs[i].1 (ir e xs[i].2))):
  fblksIn S m ids nx (enumB k (famB sz e xs)):=by
 have:=fblksIn_fam (S:=S) (m:=m) (ids:=ids) (nx:=nx) (k:=k) (L:=famB sz e xs) (r:= []) (fun i hi=>?_) ?_ trivial
 ·rwa [List.append_nil] at this
 ·have hi':i < xs.length:=by rwa [famB_len] at hi
  refine⟨_,h i hi',?_⟩
  have:(famB sz e xs)[i]= .arr sz xs[i].1 (ir e xs[i].2):=by simp [famB]
  rw [this]
  exact⟨rfl,rfl, .inl rfl⟩
 ·rcases hn with hn | hn
  ·exact .inl hn
  ·exact .inr ⟨by rw [famB_len];exact hn,allBel_fam⟩
theorem fblksIn_fams {β:Type} {sz:Nat} {e:β→List PV} {xs:List (Nat × List β)} {i:Nat} {x:Nat × List β} (hn:nx=S.nx∨k+xs.length≤nx) (h:look (S.l++m) (k+i)=some (.arr sz x.1 (ir e x.2)))
  (ho: ∀j,∀hj:j < xs.length,¬j=i→look (S.l++m) (k+j)=some (.arr sz xs[j].1 (ir e xs[j].2))):fblksIn S m ids nx (enumB k (famB sz e (xs.set i x))):=by
 refine fblksIn_famc (by rw [List.length_set];exact hn) fun j hj=>?_
 by_cases e:j=i
 ·subst e
  rw [List.getElem_set_self];exact h
 ·rw [List.getElem_set_ne (fun q=>e q.symm)]
  exact ho j (by rwa [List.length_set] at hj) e
@[go_sem] theorem oldIn_zero: ∀ {l' r:List (Nat × IBlk)},oldIn 0 l' r=True
  | _, []=>rfl
  | _,(_,_)::_=>eq_true ⟨.inl (Nat.zero_le _),of_eq_true oldIn_zero⟩
theorem oldIn_fam (h:nx0≤k∨ ∀i,i < L.length→nx0≤k+i∨ ∃blk,(k+i,blk)∈l') (hr:oldIn nx0 l' r):oldIn nx0 l' (enumB k L++r):=by
 induction L generalizing k with
 | nil=>exact hr
 | cons x L ih=>
   refine⟨?_,ih (k:=k+1) ?_⟩
   ·rcases h with h | h
    ·exact .inl h
    ·simpa using h 0 (by simp)
   ·rcases h with h | h
    ·exact .inl (by omega)
    ·refine .inr fun i hi=>?_
     have:=h (i+1) (by simpa using hi)
     rw [show k+1+i=k+(i+1) by omega];exact this
theorem fwB_self {G:Nat→Option IBlk} (b:IBlk):fwB G ids b b:=by
 cases b with
 | arr sz g rows=>exact⟨rfl,rfl, .inl rfl⟩
 | mp es=>rfl
theorem gone_fam {ids:List Nat} (h1: ∀b,b∈ids→nx0≤b) (h2: ∀p∈l',p.1 ∉ ids):gone nx0 l' ids:=by
 induction ids with
 | nil=>trivial
 | cons b ids ih=>
   refine⟨⟨h1 b (by simp),?_⟩,ih (fun c hc=>h1 c (by simp [hc])) fun p hp hc=>h2 p hp (by simp [hc])⟩
   rw [List.all_eq_true]
   intro p hp
   have:=h2 p hp
   simp only [List.mem_cons,not_or] at this
   simpa using this.1
theorem allIn_fam {w q:List Nat} (h:nx0≤k) (hr:allIn nx0 w q):allIn nx0 w ((enumB k L).map (·.1)++q):=by
 induction L generalizing k with
 | nil=>exact hr
 | cons x L ih=>exact⟨.inl h,ih (k:=k+1) (by omega)⟩
@[go_sem] theorem geAll_zero: ∀ {l:List Nat},geAll 0 l=True
  | []=>rfl
  | _::_=>eq_true ⟨Nat.zero_le _,of_eq_true geAll_zero⟩
@[go_sem] theorem allIn_zero: ∀ {w l:List Nat},allIn 0 w l=True
  | _, []=>rfl
  | _,_::_=>eq_true ⟨.inl (Nat.zero_le _),of_eq_true allIn_zero⟩
theorem fwRs_refsR {β:Type} {sz k:Nat} {e:β→List PV} {e':List β→List PV} {G:Nat→Option IBlk} {xs:List (Nat × List β)} (he: ∀l,e' l= [.imm sz (pr e l)])
  (h: ∀i,∀hi:i < xs.length,k+i∈ids∧G (k+i)=some (.arr sz xs[i].1 (ir e xs[i].2))):fwRs G ids (refsR k xs) (ir e' (xs.map (·.2))):=by
 refine .inr ⟨by rw [refsR_len];simp [ir],fun i r r' h1 h2=>?_⟩
 have hi:i < xs.length:=by have:=lt_of_get h1;rwa [refsR_len] at this
 obtain⟨hm,hg⟩:=h i hi
 rw [refsR_get hi] at h1
 cases h1
 have h3:(ir e' (xs.map (·.2)))[i]? =some [.p (.imm sz (pr e xs[i].2))]:=by
  rw [ir,List.getElem?_map,List.getElem?_map,List.getElem?_eq_getElem hi]
  simp only [Option.map_some,he,List.map_cons,List.map_nil]
 rw [h3] at h2
 cases h2
 refine⟨⟨hm,?_⟩,rfl⟩
 have hp:pvs2 (ir e xs[i].2)=some (pr e xs[i].2):=by
  have key: ∀l:List β,pvs2 (ir e l)=some (pr e l):=by
   intro l
   induction l with
   | nil=>rfl
   | cons a l ih=>
     have: ∀ps:List PV,pvs (ps.map .p)=some ps:=by
      intro ps
      induction ps with
      | nil=>rfl
      | cons p ps ih=>simp [pvs,ih]
     simp only [ir,List.map_cons,pvs2,this,pr] at ih ⊢
     rw [ih]
  exact key _
 have hl:((ir e xs[i].2).drop 0).take xs[i].2.length=ir e xs[i].2:=by
  rw [List.drop_zero,List.take_of_length_le];simp [ir]
 simp only [frz,hg,if_true,hl,hp,Option.map_some,onSome_some]
 exact wk_refl _
end
/-! ### ends -/
section
variable {fn:Func} {kk:Nat} {m:List (Nat × IBlk)} {c:Nat} {x:IV} {W:List (Nat × IBlk)} {N:Nat} {s:List (Nat × IV)} {nx:Nat} {l:List (Nat × IBlk)}
def shf (k s i:Nat):Nat:=if i < k then i else i+s
@[go_sem] theorem shf_0 {s i:Nat}:shf 0 s i=i+s:=by simp [shf]
@[go_sem] theorem shf_10 {s:Nat}:shf 1 s 0=0:=rfl
theorem rsel_shift {i t:Nat} (h:i < kk+c):rsel kk (List.range' (kk+t) c) i=shf kk t i:=by
 unfold rsel shf
 by_cases hk:i < kk
 ·rw [if_pos hk,if_pos hk]
 ·rw [if_neg hk,if_neg hk,List.getD_eq_getElem?_getD,List.getElem?_range' (by omega)];simp;omega
@[go_sem] theorem rnL_shf {β:Type} {sz t k k0:Nat} {e:β→List PV} {xs:List (Nat × List β)} (h:k0≤k):rnL (shf k0 t) (enumB k (famB sz e xs))=enumB (k+t) (famB sz e xs):=rnL_fam fun i _=>by
  unfold shf;rw [if_neg (by omega)];omega
@[go_sem] theorem rnRw_shf {β:Type} {t k k0:Nat} {xs:List (Nat × List β)} (h:k0≤k):rnRw (shf k0 t) (refsR k xs)=refsR (k+t) xs:=rnRw_refsR fun i _=>by
  unfold shf;rw [if_neg (by omega)];omega
theorem EndG_shift (t:Nat) {e:Exit} (he:e= .normal∨e= .ret) (hnx:kk≤nx) (hx:ires P ⟨N,s, [],nx,l⟩ (l++m) fn.results.toList=some (rnm (shf kk t) x)) (hb:bel (kk+c) x) (hW:allLow (kk+c) W)
  (hs:allSeen (look (l++m)) (rnL (shf kk t) W)) (hi:allIn kk ((rnL (shf kk t) W).map (·.1)) (l.map (·.1))):EndG P fn kk m c x W e ⟨N,s, [],nx,l⟩:=by
 have hk: ∀i,i < kk+c→rsel kk (List.range' (kk+t) c) i=shf kk t i:=fun i hi=>rsel_shift hi
 have hWe:rnL (rsel kk (List.range' (kk+t) c)) W=rnL (shf kk t) W:=by
  have h:=allLow_mem hW
  refine List.map_congr_left fun p hp=>?_
  obtain⟨h1,h2⟩:=h p hp
  show(_,_)=(_,_)
  rw [hk _ h1,rnB_congr (K:=(· < kk+c)) hk (blkIn_bel h2)]
 have hxe:rnm (rsel kk (List.range' (kk+t) c)) x=rnm (shf kk t) x:=rnm_congr (K:=(· < kk+c)) hk _ (within_bel x hb)
 have hend:endG P fn kk m c x W (List.range' (kk+t) c) ⟨N,s, [],nx,l⟩:=by
  rw [endG_eq,hx,onSome_some,hxe,hWe]
  refine⟨fzv_refl _,?_,hi⟩
  clear hWe hi hW
  generalize rnL (shf kk t) W=V at *
  induction V with
  | nil=>trivial
  | cons p V ih=>
    refine⟨?_,ih hs.2⟩
    rw [hs.1,onSome_some]
    cases hp:p.2 with
    | arr sz g rows=>exact⟨rfl,rfl,fzRs_refl _⟩
    | mp es=>exact fzEs_refl _
 have hn:(List.range' (kk+t) c).length=c∧geAll kk (List.range' (kk+t) c)∧apartN (List.range' (kk+t) c):=by
  refine⟨List.length_range' ..,?_,?_⟩
  ·clear hend hxe hWe hk hi hs hW hb hx hnx
   suffices h: ∀c a,kk≤a→geAll kk (List.range' a c) from h c (kk+t) (Nat.le_add_right _ _)
   intro c
   induction c with
   | zero=>intro a _;trivial
   | succ c ih=>intro a h;exact⟨h,ih (a+1) (by omega)⟩
  ·clear hend hxe hWe hk hi hs hW hb hx hnx
   generalize kk+t=a
   induction c generalizing a with
   | zero=>trivial
   | succ c ih=>
     refine⟨?_,ih (a+1)⟩
     suffices h: ∀c b,a < b→apartN.nin a (List.range' b c) from h c (a+1) (by omega)
     intro c
     induction c with
     | zero=>intro b _;trivial
     | succ c ih=>intro b h;exact⟨by omega,ih (b+1) (by omega)⟩
 rcases he with rfl | rfl
 ·exact⟨rfl,hnx,_,hn,hend⟩
 ·exact⟨rfl,hnx,_,hn,hend⟩
theorem shf_id {k:Nat}:shf k 0=id:=by funext i;simp [shf]
theorem EndG_same {e:Exit} (he:e= .normal∨e= .ret) (hnx:kk≤nx) (hx:ires P ⟨N,s, [],nx,l⟩ (l++m) fn.results.toList=some x) (hb:bel (kk+c) x) (hW:allLow (kk+c) W)
  (hs:allSeen (look (l++m)) W) (hi:allIn kk (W.map (·.1)) (l.map (·.1))):EndG P fn kk m c x W e ⟨N,s, [],nx,l⟩:=by
 have hW':rnL (shf kk 0) W=W:=by
  rw [shf_id]
  exact(List.map_congr_left fun p _=>by rw [rnB_id];rfl).trans (List.map_id' _)
 refine EndG_shift 0 he hnx (by rw [hx,shf_id,rnm_id]) hb hW (by rw [hW'];exact hs) (by rw [hW'];exact hi)
theorem allSeen_app {G:Nat→Option IBlk} {a b:List (Nat × IBlk)}:allSeen G (a++b)↔allSeen G a∧allSeen G b:=by
 induction a with
 | nil=>simp [allSeen]
 | cons p l ih=>simp only [List.cons_append,allSeen,ih,and_assoc]
theorem allSeen_enum {G:Nat→Option IBlk} {L:List IBlk} {k:Nat} (h: ∀i,∀hi:i < L.length,G (k+i)=some L[i]):allSeen G (enumB k L):=by
 induction L generalizing k with
 | nil=>trivial
 | cons x L ih=>
   refine⟨h 0 (by simp),ih (k:=k+1) fun i hi=>?_⟩
   have:=h (i+1) (by simpa using hi)
   rw [show k+1+i=k+(i+1) by omega];simpa using this
end
theorem allSeen_famc {β:Type} {sz k:Nat} {e:β→List PV} {xs:List (Nat × List β)} {G:Nat→Option IBlk} (h: ∀i,∀hi:i < xs.length,G (k+i)=some (.arr sz xs[i].1 (ir e xs[i].2))):allSeen G (enumB k (famB sz e xs)):=
 allSeen_enum fun i hi=>by
  have hi':i < xs.length:=by rwa [famB_len] at hi
  rw [h i hi'];simp [famB]
/-! ### calls whose new blocks are numbered at will -/
section
variable {f:FuncId} {args:List IV} {c:Nat} {x:IV} {W:List (Nat × IBlk)}
theorem PG.icallN (h:PG P f args [] c x W) {hp:IH} (ν:Nat→Nat) {nx':Nat} (hinj: ∀i j,i < c→j < c→ν i=ν j→i=j) (hν: ∀i,i < c→hp.nx≤ν i∧ν i < nx') (hle:hp.nx≤nx'):
  ICall P f (rnms ν args) hp fun r nx l=>r= .ret (rnm ν x)∧nx=nx'∧l=rnL ν W:=by
 intro M vs hM hl hr
 have hin:=h.hin
 have hzs:=h.hzs
 have hW:=h.hW
 have hcall:=h.call
 have hhx:=h.hx
 simp only [List.length_nil,Nat.zero_add] at hzs hW hhx
 refine(calls_rn (R:= []) (c:=c) (ρ:=ν) (Ψ:=fun r0 V=>r0= .ret x∧V=W) (by simpa using hinj) hin hzs (hcall.mono fun r n l ⟨σ,h1,h2,h3⟩=>⟨σ, .ret x,W,h1,by simpa using hW,h3,?_,?_,rfl,rfl⟩) hM.rel (fun i blk hb=>by simp at hb)
  (fun j _ hj=>fun hA=>by have:=hM.A _ hA;have:=(hν j (by simpa using hj)).1;omega) (by rw [hl,rnms_length]) (fun i y v hy hv=>hr i _ v (rnms_at hy) hv)).mono ?_
 ·intro M e he;rw [h2] at he;exact he
 ·intro z hz;cases hz;simpa using hhx
 ·rintro e w' ⟨M',r0,V,e1,st,rel,hH,he,_,rfl,rfl⟩
  refine⟨M',nx',rnL ν V, .ret (rnm ν x),e1,st,hrel_upd hM rel hle hH fun p hp'=>?_,he,rfl,rfl,rfl⟩
  obtain⟨q,hq,e⟩:=rnL_keys hp'
  rw [e]
  have h1:=(hW.low q hq).1
  exact(hν _ (by omega)).2
variable {Q:Exit→IState→Prop} {k:List It} {all:Array Oper} {r:List Oper} {dst:Option Tmp} {ty:TypeId} {pos:String} {aft:Array Edge} {N:Nat} {s:List (Nat × IV)} {d:List IDef} {nx:Nat} {l:List (Nat × IBlk)}
 {g:Option (Nat × Bool)} {fo:Operand} {as:List Operand} {ts:List TypeId}
theorem at_gN (n:Nat) (ν:Nat→Nat) (nx':Nat) (hp:PG P f args [] c x W) (hinj: ∀i j,i < c→j < c→ν i=ν j→i=j) (hν: ∀i,i < c→nx≤ν i∧ν i < nx') (hle:nx≤nx')
  (h:onSome (icallee (ev s) fo as) (fun q=>(iwant all s ⟨dst, .call {callee:= .value fo,args:=⟨as⟩,argTypes:=⟨ts⟩},ty,pos,aft,g⟩=some true∧fnOk P q.1=true∧dOk N dst=true)∧
   q.1=f∧wks q.2 (rnms ν args)∧vc P h0 Q n (.ops all r::k) ⟨N,putS dst (rnm ν x) s,d,nx',rnL ν W++l⟩) False):
  IRun P h0 (.ops all (⟨dst, .call {callee:= .value fo,args:=⟨as⟩,argTypes:=⟨ts⟩},ty,pos,aft,g⟩::r)::k) ⟨N,s,d,nx,l⟩ Q:=by
 cases hc:icallee (ev s) fo as with
 | none=>rw [hc] at h;exact h.elim
 | some q=>
   rw [hc,onSome_some] at h
   obtain⟨⟨h1,h2,h3⟩,e1,hw,p5⟩:=h
   subst e1
   refine iops_call (S:=⟨N,s,d,nx,l⟩) rfl h1 hc h2 (by cases dst<;>simp_all [dOk,dstOk]) ((icall_weak (hp.icallN (hp:=⟨nx,l++h0.m⟩) ν hinj hν hle) hw).mono ?_)
   rintro e nx' l' ⟨rfl,rfl,rfl⟩
   simp only [put_eq]
   exact vc_sound Q n _ _ p5
end
end Go.Idl
