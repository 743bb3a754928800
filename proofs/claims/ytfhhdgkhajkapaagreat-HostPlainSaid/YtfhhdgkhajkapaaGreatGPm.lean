/- Facts that the proofs of this claim lean on. -/
import Derived.Test.YtfhhdgkhajkapaaGreatIdNl
set_option linter.unusedSimpArgs false
set_option linter.unusedVariables false
/- Graphs: links found, links from a node and to one, distances, and which graphs may be. No program in sight. -/
namespace Go.GP
def qat (a b:Int):Nat→List (Int × Int)→Int
 | _, []=> -1
 | i,x::r=>if x.1=a∧x.2=b then i else qat a b (i+1) r
def outs (n:Int):Nat→List (Int × Int)→List Int
 | _, []=> []
 | i,x::r=>if x.1=n then(i:Int)::outs n (i+1) r else outs n (i+1) r
def ins (n:Int):Nat→List (Int × Int)→List Int
 | _, []=> []
 | i,x::r=>if x.2=n then(i:Int)::ins n (i+1) r else ins n (i+1) r
def qi4 (ls:List (Int × Int)) (l:Int):Int:=if h:0≤l∧l.toNat < ls.length then qat ls[l.toNat].2 ls[l.toNat].1 0 ls else -1
theorem qcG {a b:Int}: ∀ {ls:List (Int × Int)} {s:Nat},0≤qat a b s ls→ ∃j,∃hj:j < ls.length,qat a b s ls=((s+j:Nat):Int)∧ls[j]=(a,b)
 | [],s,h=>by simp [qat] at h
 | x::r,s,h=>by
   unfold qat at h ⊢
   split
   ·rename_i q
    exact⟨0,by simp,by simp,by simp;exact Prod.ext q.1 q.2⟩
   ·rename_i q
    rw [if_neg q] at h
    obtain⟨j,hj,e1,e2⟩:=qcG h
    exact⟨j+1,by simp;omega,by rw [e1];omega,by simpa using e2⟩
theorem qhZ {a b:Int}: ∀ {ls:List (Int × Int)} {s:Nat},qat a b s ls < 0→(a,b) ∉ ls
 | [],s,_=>by simp
 | x::r,s,h=>by
   unfold qat at h
   split at h
   ·omega
   ·rename_i q
    intro hm
    rcases List.mem_cons.1 hm with e | e
    ·exact q (by rw [←e];exact⟨rfl,rfl⟩)
    ·exact qhZ h e
theorem qbn {a b:Int} {s:Nat} {ls:List (Int × Int)}:0≤qat a b s ls↔(a,b)∈ls:=by
 constructor
 ·intro h
  obtain⟨j,hj,_,e⟩:=qcG h
  rw [←e];exact List.getElem_mem hj
 ·intro h
  rcases Int.lt_or_le (qat a b s ls) 0 with q | q
  ·exact absurd h (qhZ q)
  ·exact q
/-! ### distances -/
def relax (k:Int) (out:List Int) (x:Int × Int):List Int:=
 if out.getD x.1.toNat 0=k∧out.getD x.2.toNat 0 < 0 then out.set x.2.toNat (k+1) else out
def qb3 (ls:List (Int × Int)):Nat→Nat→List Int→List Int
 | 0,_,out=>out
 | f+1,k,out=>qb3 ls f (k+1) (ls.foldl (relax k) out)
def qa9 (N:Nat) (ls:List (Int × Int)) (n:Nat):List Int:=qb3 ls N 0 ((List.replicate N (-1)).set n 0)
def InR (N:Nat) (ls:List (Int × Int)):Prop:= ∀x∈ls,(0≤x.1∧x.1 < N)∧0≤x.2∧x.2 < N
theorem qfz {k:Int} {out:List Int} {x:Int × Int}:(relax k out x).length=out.length:=by unfold relax;split<;>simp
theorem qdU {k:Int}: ∀ {ls:List (Int × Int)} {out:List Int},(ls.foldl (relax k) out).length=out.length
 | [],out=>rfl
 | x::r,out=>by rw [List.foldl_cons,qdU,qfz]
theorem qeO {ls:List (Int × Int)}: ∀ {f k:Nat} {out:List Int},(qb3 ls f k out).length=out.length
 | 0,k,out=>rfl
 | f+1,k,out=>by rw [qb3,qeO,qdU]
theorem qb4 {N n:Nat} {ls:List (Int × Int)}:(qa9 N ls n).length=N:=by unfold qa9;rw [qeO];simp
inductive Reach (ls:List (Int × Int)) (r:Nat):Nat→Prop where
 | refl:Reach ls r r
 | step {a b:Int}:Reach ls r a.toNat→(a,b)∈ls→Reach ls r b.toNat
theorem Reach.trans {ls:List (Int × Int)} {r m n:Nat} (h:Reach ls r m) (k:Reach ls m n):Reach ls r n:=by
 induction k with
 | refl=>exact h
 | step _ hm ih=>exact .step ih hm
theorem Reach.back {ls:List (Int × Int)} {r n:Nat} (hs: ∀x∈ls,(x.2,x.1)∈ls) (h:Reach ls r n):Reach ls n r:=by
 induction h with
 | refl=>exact .refl
 | step _ hm ih=>exact Reach.trans (.step .refl (hs _ hm)) ih
structure Lv (N:Nat) (ls:List (Int × Int)) (r:Nat) (k:Int) (o:Nat→Int):Prop where
 lo: ∀v,v < N→o v= -1∨0≤o v∧o v≤k
 down: ∀v,v < N→1≤o v→ ∃u,u < N∧o u=o v - 1
 from_: ∀v,v < N→0≤o v→Reach ls r v
 start:o r=0
def at' (o:List Int) (v:Nat):Int:=o.getD v 0
theorem qbt {o:List Int} {v w:Nat} {c:Int} (hw:w < o.length):at' (o.set w c) v=if v=w then c else at' o v:=by
 unfold at' List.getD
 rw [List.getElem?_set]
 by_cases e:w=v
 ·subst e;simp [hw]
 ·simp [e,Ne.symm e]
theorem qij {N:Nat} {ls:List (Int × Int)} {r:Nat} {k:Int} (hk:0≤k): ∀(l:List (Int × Int)) (o:List Int),(∀x∈l,x∈ls∧((0≤x.1∧x.1 < N)∧0≤x.2∧x.2 < N))→o.length=N→Lv N ls r (k+1) (at' o)→
  Lv N ls r (k+1) (at' (l.foldl (relax k) o))∧(∀v,v < N→0≤at' o v→at' (l.foldl (relax k) o) v=at' o v)∧
  (∀v,v < N→at' o v < 0→at' (l.foldl (relax k) o) v < 0∨at' (l.foldl (relax k) o) v=k+1)∧ ∀x∈l,at' o x.1.toNat=k→0≤at' (l.foldl (relax k) o) x.2.toNat
 | [],o,_,_,h=>⟨h,fun _ _ _=>rfl,fun _ _ q=> .inl q,fun x hx=>by cases hx⟩
 | x::l,o,hx,hl,h=>by
   obtain⟨hm,⟨a0,a1⟩,b0,b1⟩:=hx x (List.mem_cons_self ..)
   have hbn:x.2.toNat < o.length:=by omega
   have one:Lv N ls r (k+1) (at' (relax k o x))∧(∀v,v < N→0≤at' o v→at' (relax k o x) v=at' o v)∧
     (∀v,v < N→at' o v < 0→at' (relax k o x) v < 0∨at' (relax k o x) v=k+1)∧(at' o x.1.toNat=k→0≤at' (relax k o x) x.2.toNat):=by
    unfold relax
    split
    ·rename_i q
     obtain⟨q1,q2⟩:=q
     change at' o x.1.toNat=k at q1
     change at' o x.2.toNat < 0 at q2
     refine⟨⟨fun v hv=>?_,fun v hv hv1=>?_,fun v hv hv0=>?_,?_⟩,fun v hv hv0=>?_,fun v hv hv0=>?_,fun _=>?_⟩
     ·rw [qbt hbn];split
      ·right;omega
      ·exact h.lo v hv
     ·rw [qbt hbn] at hv1 ⊢
      by_cases e:v=x.2.toNat
      ·rw [if_pos e]
       refine⟨x.1.toNat,by omega,?_⟩
       rw [qbt hbn,if_neg (by rintro e2;rw [e2] at q1;omega)];omega
      ·rw [if_neg e] at hv1 ⊢
       obtain⟨u,hu,e2⟩:=h.down v hv hv1
       refine⟨u,hu,?_⟩
       rw [qbt hbn,if_neg (by rintro e3;rw [e3] at e2;omega)];exact e2
     ·rw [qbt hbn] at hv0
      by_cases e:v=x.2.toNat
      ·subst e
       exact .step (a:=x.1) (h.from_ _ (by omega) (by omega)) hm
      ·rw [if_neg e] at hv0;exact h.from_ v hv hv0
     ·rw [qbt hbn,if_neg (by rintro e;rw [←e] at q2;have:=h.start;omega)];exact h.start
     ·rw [qbt hbn,if_neg (by rintro e;rw [e] at hv0;omega)]
     ·rw [qbt hbn];split
      ·right;rfl
      ·left;exact hv0
     ·rw [qbt hbn,if_pos rfl];omega
    ·rename_i q
     refine⟨h,fun _ _ _=>rfl,fun _ _ q=> .inl q,fun e=>?_⟩
     rcases h.lo x.2.toNat (by omega) with e2 | e2
     ·exact absurd ⟨e,by show at' o x.2.toNat < 0;omega⟩ q
     ·exact e2.1
   obtain⟨o1,o2,o3,o4⟩:=one
   obtain⟨r1,r2,r3,r4⟩:=qij hk l (relax k o x) (fun y hy=>hx y (List.mem_cons_of_mem _ hy)) (by rw [qfz,hl]) o1
   rw [List.foldl_cons]
   refine⟨r1,fun v hv h0=>?_,fun v hv h0=>?_,fun y hy e=>?_⟩
   ·rw [r2 v hv (by rw [o2 v hv h0];exact h0),o2 v hv h0]
   ·rcases o3 v hv h0 with q | q
    ·exact r3 v hv q
    ·right;rw [r2 v hv (by omega)];exact q
   ·rcases List.mem_cons.1 hy with rfl | hy
    ·have:=o4 e
     rw [r2 _ (by omega) this];exact this
    ·obtain⟨_,⟨c0,c1⟩,d0,d1⟩:=hx y (List.mem_cons_of_mem _ hy)
     exact r4 y hy (by rw [o2 _ (by omega) (by omega)];exact e)
theorem rounds {N:Nat} {ls:List (Int × Int)} {r:Nat} (hr:InR N ls): ∀(f k:Nat) (o:List Int),o.length=N→Lv N ls r k (at' o)→(∀x∈ls,0≤at' o x.1.toNat→at' o x.1.toNat < k→0≤at' o x.2.toNat)→
  Lv N ls r (k+f:Nat) (at' (qb3 ls f k o))∧ ∀x∈ls,0≤at' (qb3 ls f k o) x.1.toNat→at' (qb3 ls f k o) x.1.toNat < (k+f:Nat)→0≤at' (qb3 ls f k o) x.2.toNat
 | 0,k,o,_,h,hc=>⟨h,hc⟩
 | f+1,k,o,hl,h,hc=>by
   have h':Lv N ls r ((k:Int)+1) (at' o):=⟨fun v hv=>by rcases h.lo v hv with q | q;exact .inl q;right;omega,h.down,h.from_,h.start⟩
   obtain⟨r1,r2,r3,r4⟩:=qij (k:=(k:Int)) (by omega) ls o (fun x hx=>⟨hx,hr x hx⟩) hl h'
   have:=rounds hr f (k+1) (ls.foldl (relax k) o) (by rw [qdU,hl]) (by simpa using r1) (fun x hx h0 h1=>by
    obtain⟨⟨a0,a1⟩,b0,b1⟩:=hr x hx
    have hoa:0≤at' o x.1.toNat:=by
     rcases h.lo x.1.toNat (by omega) with q | q
     ·rcases r3 x.1.toNat (by omega) (by omega) with q2 | q2<;>omega
     ·exact q.1
    have ea:=r2 x.1.toNat (by omega) hoa
    rw [ea] at h1
    rcases Int.lt_or_le (at' o x.1.toNat) k with q | q
    ·have:=hc x hx hoa q
     rw [r2 x.2.toNat (by omega) this];exact this
    ·exact r4 x hx (by omega))
   rw [show k+(f+1)=k+1+f by omega]
   exact this
theorem qkm: ∀(m:Nat) (l:List Int),(∀i:Nat,i < m→(i:Int)∈l)→m≤l.length
 | 0,_,_=>Nat.zero_le _
 | m+1,l,h=>by
   have hm:=h m (by omega)
   have:=qkm m (l.erase (m:Int)) fun i hi=>(List.mem_erase_of_ne (by omega)).2 (h i (by omega))
   rw [List.length_erase_of_mem hm] at this
   have:0 < l.length:=List.length_pos_of_mem hm
   omega
theorem Lv.top {N:Nat} {ls:List (Int × Int)} {r:Nat} {k:Int} {o:List Int} (hl:o.length=N) (h:Lv N ls r k (at' o)) {v:Nat} (hv:v < N):at' o v < N:=by
 have at_mem: ∀u,u < N→at' o u∈o:=fun u hu=>by
  have:at' o u=o[u]'(by omega):=by simp [at',List.getD,hl,hu]
  rw [this];exact List.getElem_mem _
 have key: ∀j:Nat,(∃u,u < N∧at' o u=(j:Int))→ ∀i:Nat,i≤j→(i:Int)∈o:=by
  intro j
  induction j with
  | zero=>
    rintro⟨u,hu,e⟩ i hi
    obtain rfl:i=0:=by omega
    rw [←e];exact at_mem u hu
  | succ j ih=>
    rintro⟨u,hu,e⟩ i hi
    rcases Nat.lt_or_ge i (j+1) with q | q
    ·obtain⟨w,hw,e2⟩:=h.down u hu (by omega)
     exact ih ⟨w,hw,by omega⟩ i (by omega)
    ·obtain rfl:i=j+1:=by omega
     rw [←e];exact at_mem u hu
 rcases h.lo v hv with q | q
 ·omega
 ·have:=qkm ((at' o v).toNat+1) o fun i hi=>key (at' o v).toNat ⟨v,hv,by omega⟩ i (by omega)
  omega
theorem qgb {N r:Nat} {ls:List (Int × Int)} (hr:InR N ls) (hrN:r < N) {n:Nat} (hn:n < N):0≤at' (qa9 N ls r) n↔Reach ls r n:=by
 have h0: ∀v,at' ((List.replicate N (-1)).set r 0) v=if v=r then 0 else at' (List.replicate N (-1)) v:=fun v=>qbt (by simpa using hrN)
 have hm: ∀v,v < N→at' (List.replicate N (-1)) v= -1:=fun v hv=>by simp [at',List.getD,hv]
 obtain⟨h1,h2⟩:=rounds hr N 0 ((List.replicate N (-1)).set r 0) (by simp) (r:=r)
  ⟨fun v hv=>by rw [h0];split<;>simp [hm v hv],fun v hv h=>by rw [h0] at h;split at h<;>simp [hm v hv] at h,fun v hv h=>by
   rw [h0] at h;split at h
   ·rename_i e;rw [e];exact .refl
   ·rw [hm v hv] at h;omega,by rw [h0,if_pos rfl]⟩
  (fun x hx h q=>by
   obtain⟨⟨a0,a1⟩,b0,b1⟩:=hr x hx
   rw [h0] at h q
   split at q
   ·omega
   ·rw [hm _ (by omega)] at h;omega)
 change Lv N ls r _ (at' (qa9 N ls r)) at h1
 change ∀x∈ls,0≤at' (qa9 N ls r) x.1.toNat→at' (qa9 N ls r) x.1.toNat < _→0≤at' (qa9 N ls r) x.2.toNat at h2
 refine⟨h1.from_ n hn,fun h=>?_⟩
 have all: ∀v,Reach ls r v→v < N→0≤at' (qa9 N ls r) v:=by
  intro v hv
  induction hv with
  | refl=>intro _;rw [h1.start];omega
  | step hp hm ih=>
    rename_i a b
    intro _
    obtain⟨⟨a0,a1⟩,b0,b1⟩:=hr (a,b) hm
    simp only at a0 a1 b0 b1
    have:=ih (by omega)
    refine h2 (a,b) hm this ?_
    have:=h1.top qb4 (v:=a.toNat) (by omega)
    show at' (qa9 N ls r) a.toNat < _
    omega
 exact all n h hn
/-! ### which graphs may be -/
def qbu (N:Int) (ls:List (Int × Int)) (i:Nat) (x:Int × Int):Bool:=
 !(decide (x.1 < 0)) && !(decide (N≤x.1)) && !(decide (x.2 < 0)) && !(decide (N≤x.2)) && !(x.1==x.2) && !(qat x.1 x.2 0 ls != (i:Int)) && !(decide (qat x.2 x.1 0 ls < 0))
def qbR (N:Int) (ls:List (Int × Int)):Nat→List (Int × Int)→Bool
 | _, []=>true
 | i,x::r=>qbu N ls i x && qbR N ls (i+1) r
def qbw (N:Int) (ls:List (Int × Int)):Bool:=
 decide (1≤N) && decide (N≤6) && decide (ls.length≤30) && qbR N ls 0 ls && (List.range N.toNat).all fun f=>(qa9 N.toNat ls f).all fun d=>decide (0≤d)
theorem qdW {N:Int} {ls:List (Int × Int)}: ∀ {i:Nat} {r:List (Int × Int)},qbR N ls i r=true↔ ∀(j:Nat) (x:Int × Int),r[j]? =some x→qbu N ls (i+j) x=true
 | i, []=>by simp [qbR]
 | i,y::r=>by
   simp only [qbR,Bool.and_eq_true,qdW (i:=i+1) (r:=r)]
   constructor
   ·rintro⟨h1,h2⟩ j x hx
    cases j with
    | zero=>simp at hx;subst hx;exact h1
    | succ j=>
      have:=h2 j x (by simpa using hx)
      rwa [show i+1+j=i+(j+1) by omega] at this
   ·intro h
    refine⟨h 0 y rfl,fun j x hx=>?_⟩
    have:=h (j+1) x (by simpa using hx)
    rwa [show i+(j+1)=i+1+j by omega] at this
def qd2 (N:Int) (ls:List (Int × Int)) (i:Nat) (x:Int × Int):Prop:=
 (0≤x.1∧x.1 < N)∧(0≤x.2∧x.2 < N)∧x.1≠x.2∧qat x.1 x.2 0 ls=(i:Int)∧(x.2,x.1)∈ls
theorem qg6 {N:Int} {ls:List (Int × Int)} {i:Nat} {x:Int × Int}:qbu N ls i x=true↔qd2 N ls i x:=by
 have:=qbn (a:=x.2) (b:=x.1) (s:=0) (ls:=ls)
 simp only [qbu,qd2,Bool.and_eq_true,Bool.not_eq_true',decide_eq_false_iff_not,beq_eq_false_iff_ne,bne_eq_false_iff_eq,←this]
 constructor
 ·rintro⟨⟨⟨⟨⟨⟨a,b⟩,c⟩,d⟩,e⟩,f⟩,g⟩;exact⟨⟨by omega,by omega⟩,⟨by omega,by omega⟩,e,f,by omega⟩
 ·rintro⟨⟨a,b⟩,⟨c,d⟩,e,f,g⟩;exact⟨⟨⟨⟨⟨⟨by omega,by omega⟩,by omega⟩,by omega⟩,e⟩,f⟩,by omega⟩
def qcD (N:Int) (ls:List (Int × Int)):Prop:=
 1≤N∧N≤6∧ls.length≤30∧(∀(i:Nat) (x:Int × Int),ls[i]? =some x→qd2 N ls i x)∧ ∀v:Nat,v < N.toNat→Reach ls 0 v
theorem qcD.inR {N:Int} {ls:List (Int × Int)} (h: ∀(i:Nat) (x:Int × Int),ls[i]? =some x→qd2 N ls i x):InR N.toNat ls:=by
 intro x hx
 obtain⟨j,hj,rfl⟩:=List.getElem_of_mem hx
 have:=h j _ (List.getElem?_eq_getElem hj)
 obtain⟨⟨a,b⟩,⟨c,d⟩,_⟩:=this
 exact⟨⟨by omega,by omega⟩,by omega,by omega⟩
theorem qhk {N:Int} {ls:List (Int × Int)}:qbw N ls=true↔qcD N ls:=by
 have e1:qbR N ls 0 ls=true↔ ∀(i:Nat) (x:Int × Int),ls[i]? =some x→qd2 N ls i x:=by
  rw [qdW]
  constructor
  ·intro h i x hx;have:=h i x hx;rw [Nat.zero_add] at this;exact qg6.1 this
  ·intro h i x hx;rw [Nat.zero_add];exact qg6.2 (h i x hx)
 simp only [qbw,qcD,Bool.and_eq_true,decide_eq_true_eq,e1,List.all_eq_true,List.mem_range]
 constructor
 ·rintro⟨⟨⟨⟨h1,h2⟩,h3⟩,h4⟩,h5⟩
  refine⟨h1,h2,h3,h4,fun v hv=>?_⟩
  have hr:=qcD.inR h4
  refine(qgb hr (by omega) hv).1 ?_
  have hlen:=qb4 (N:=N.toNat) (n:=0) (ls:=ls)
  have:=h5 0 (by omega) _ (List.getElem_mem (show v < (qa9 N.toNat ls 0).length by omega))
  simpa [at',List.getD,hlen,hv] using this
 ·rintro⟨h1,h2,h3,h4,h5⟩
  refine⟨⟨⟨⟨h1,h2⟩,h3⟩,h4⟩,fun f hf d hd=>?_⟩
  have hr:=qcD.inR h4
  have sym: ∀x∈ls,(x.2,x.1)∈ls:=fun x hx=>by
   obtain⟨j,hj,rfl⟩:=List.getElem_of_mem hx
   exact(h4 j _ (List.getElem?_eq_getElem hj)).2.2.2.2
  obtain⟨v,hv,rfl⟩:=List.getElem_of_mem hd
  have hlen:=qb4 (N:=N.toNat) (n:=f) (ls:=ls)
  have:=(qgb hr hf (n:=v) (by omega)).2 (((h5 f hf).back sym).trans (h5 v (by omega)))
  simpa [at',List.getD,hv] using this
def qdg (ls:List (Int × Int)) (n:Int) (s:List Int × List Int) (l:Int):List Int × List Int:=
 let to:=(ls.getD l.toNat (0,0)).2
 if at' s.1 to.toNat < 0 then(s.1.set to.toNat (at' s.1 n.toNat+1),s.2++ [to]) else s
def unv:List Int→Nat
 | []=>0
 | x::r=>(if x < 0 then 1 else 0)+unv r
theorem qlF {c:Int} (hc:0≤c): ∀ {l:List Int} {i:Nat},i < l.length→at' l i < 0→unv (l.set i c)+1=unv l
 | [],_,h,_=>by simp at h
 | x::r,0,_,h=>by
   have h:x < 0:=h
   simp only [List.set_cons_zero,unv,if_pos h,if_neg (show ¬c < 0 by omega)];omega
 | x::r,i+1,hi,h=>by
   have h:at' r i < 0:=h
   have:=qlF hc (l:=r) (i:=i) (by simpa using hi) h
   simp only [List.set_cons_succ,unv];omega
theorem qgz {n l:Int}: ∀ {ls:List (Int × Int)} {i:Nat},l∈outs n i ls→ ∃j,∃hj:j < ls.length,l=((i+j:Nat):Int)∧ls[j].1=n
 | [],i,h=>by simp [outs] at h
 | x::r,i,h=>by
   unfold outs at h
   split at h
   ·rename_i e
    rcases List.mem_cons.1 h with rfl | h
    ·exact⟨0,by simp,by simp,by simpa using e⟩
    ·obtain⟨j,hj,e1,e2⟩:=qgz h
     exact⟨j+1,by simp;omega,by rw [e1];omega,by simpa using e2⟩
   ·obtain⟨j,hj,e1,e2⟩:=qgz h
    exact⟨j+1,by simp;omega,by rw [e1];omega,by simpa using e2⟩
theorem qdA {n:Int}: ∀ {ls:List (Int × Int)} {i j:Nat} (hj:j < ls.length),ls[j].1=n→((i+j:Nat):Int)∈outs n i ls
 | x::r,i,0,_,e=>by
   have e:x.1=n:=e
   unfold outs
   rw [if_pos e]
   exact List.mem_cons_self ..
 | x::r,i,j+1,hj,e=>by
   have:=qdA (ls:=r) (i:=i+1) (j:=j) (by simpa using hj) (by simpa using e)
   unfold outs
   rw [show i+(j+1)=i+1+j by omega]
   split
   ·exact List.mem_cons_of_mem _ this
   ·exact this
structure Bq (N:Nat) (ls:List (Int × Int)) (f:Nat) (out q:List Int) (d:Nat→Prop):Prop where
 len:out.length=N
 inq: ∀x∈q,0≤x∧x < N∧0≤at' out x.toNat
 few:unv out+q.length≤f
 le:f≤N
 val: ∀v,v < N→ -1≤at' out v∧at' out v≤(N:Int) - f
 from_: ∀v,v < N→0≤at' out v→Reach ls 0 v
 done: ∀v,v < N→0≤at' out v→d v∨(v:Int)∈q
 clo: ∀v,d v→ ∀x∈ls,x.1.toNat=v→0≤at' out x.2.toNat
 start:0≤at' out 0
 pos:0 < N
structure Bi (N:Nat) (ls:List (Int × Int)) (f:Nat) (n:Int) (s:List Int × List Int) (d:Nat→Prop):Prop where
 len:s.1.length=N
 inq: ∀x∈s.2,0≤x∧x < N∧0≤at' s.1 x.toNat
 few:unv s.1+s.2.length≤f
 le:f+1≤N
 val: ∀v,v < N→ -1≤at' s.1 v∧at' s.1 v≤(N:Int) - f
 from_: ∀v,v < N→0≤at' s.1 v→Reach ls 0 v
 done: ∀v,v < N→0≤at' s.1 v→d v∨(v:Int)∈s.2∨(v:Int)=n
 clo: ∀v,d v→ ∀x∈ls,x.1.toNat=v→0≤at' s.1 x.2.toNat
 start:0≤at' s.1 0
 n0:0≤n∧n < N∧0≤at' s.1 n.toNat∧at' s.1 n.toNat≤(N:Int) - (f+1)
theorem Bi.step {N f:Nat} {ls:List (Int × Int)} {n:Int} {s:List Int × List Int} {d:Nat→Prop} (hr:InR N ls) (h:Bi N ls f n s d) {l:Nat} (hl:l < ls.length) (e:ls[l].1=n):
  Bi N ls f n (qdg ls n s l) d∧(∀v,v < N→0≤at' s.1 v→0≤at' (qdg ls n s l).1 v)∧0≤at' (qdg ls n s l).1 ls[l].2.toNat:=by
 obtain⟨⟨a0,a1⟩,b0,b1⟩:=hr _ (List.getElem_mem hl)
 have hm:=List.getElem_mem hl
 have hg:ls.getD l (0,0)=ls[l]:=by simp [List.getD,hl]
 obtain⟨n0,n1,n2,n3⟩:=h.n0
 unfold qdg
 simp only [Int.toNat_natCast,hg]
 generalize hx:ls[l]=x at *
 have hbn:x.2.toNat < s.1.length:=by rw [h.len];omega
 split
 ·rename_i q
  have ne: ∀v,0≤at' s.1 v→v≠x.2.toNat:=fun v hv e2=>by rw [e2] at hv;omega
  have keep: ∀v,0≤at' s.1 v→at' (s.1.set x.2.toNat (at' s.1 n.toNat+1)) v=at' s.1 v:=fun v hv=>by rw [qbt hbn,if_neg (ne v hv)]
  refine⟨⟨by simp [h.len],fun y hy=>?_,?_,h.le,fun v hv=>?_,fun v hv h0=>?_,fun v hv h0=>?_,fun v hv y hy e2=>?_,?_,n0,n1,?_,?_⟩,fun v hv h0=>?_,?_⟩
  ·simp only [List.mem_append,List.mem_cons,List.not_mem_nil,or_false] at hy
   rcases hy with hy | rfl
   ·obtain⟨c0,c1,c2⟩:=h.inq y hy
    exact⟨c0,c1,by rw [keep _ c2];exact c2⟩
   ·exact⟨b0,b1,by rw [qbt hbn,if_pos rfl];omega⟩
  ·have:=qlF (c:=at' s.1 n.toNat+1) (by omega) hbn q
   have:=h.few
   simp only [List.length_append,List.length_cons,List.length_nil];omega
  ·rw [qbt hbn];split
   ·omega
   ·exact h.val v hv
  ·rw [qbt hbn] at h0
   by_cases e2:v=x.2.toNat
   ·rw [e2]
    exact .step (a:=x.1) (by rw [e];exact h.from_ _ (by omega) n2) hm
   ·rw [if_neg e2] at h0;exact h.from_ v hv h0
  ·rw [qbt hbn] at h0
   by_cases e2:v=x.2.toNat
   ·right;left;simp only [List.mem_append,List.mem_cons,List.not_mem_nil,or_false];right;omega
   ·rw [if_neg e2] at h0
    rcases h.done v hv h0 with q | q | q
    ·exact .inl q
    ·right;left;simp only [List.mem_append];exact .inl q
    ·exact .inr (.inr q)
  ·have:=h.clo v hv y hy e2
   rw [keep _ this];exact this
  ·rw [keep _ h.start];exact h.start
  ·rw [keep _ n2];exact n2
  ·rw [keep _ n2];exact n3
  ·rw [keep _ h0];exact h0
  ·rw [qbt hbn,if_pos rfl];omega
 ·rename_i q
  exact⟨h,fun _ _ q=>q,by omega⟩
theorem Bi.all {N f:Nat} {ls:List (Int × Int)} {n:Int} {d:Nat→Prop} (hr:InR N ls): ∀(r:List Int) {s:List Int × List Int},(∀l∈r,∃j,∃hj:j < ls.length,l=(j:Int)∧ls[j].1=n)→Bi N ls f n s d→
  Bi N ls f n (r.foldl (qdg ls n) s) d∧(∀v,v < N→0≤at' s.1 v→0≤at' (r.foldl (qdg ls n) s).1 v)∧ ∀l∈r,0≤at' (r.foldl (qdg ls n) s).1 (ls.getD l.toNat (0,0)).2.toNat
 | [],s,_,h=>⟨h,fun _ _ q=>q,fun l hl=>by cases hl⟩
 | l::r,s,hm,h=>by
   obtain⟨j,hj,rfl,e⟩:=hm l (List.mem_cons_self ..)
   obtain⟨h1,h2,h3⟩:=h.step hr hj e
   obtain⟨k1,k2,k3⟩:=Bi.all hr r (fun l hl=>hm l (List.mem_cons_of_mem _ hl)) h1
   rw [List.foldl_cons]
   refine⟨k1,fun v hv h0=>k2 v hv (h2 v hv h0),fun l hl=>?_⟩
   rcases List.mem_cons.1 hl with rfl | hl
   ·have hg:ls.getD j (0,0)=ls[j]:=by simp [List.getD,hj]
    simp only [Int.toNat_natCast,hg]
    obtain⟨_,b0,b1⟩:=hr _ (List.getElem_mem hj)
    exact k2 _ (by omega) h3
   ·exact k3 l hl
theorem Bi.next {N f:Nat} {ls:List (Int × Int)} {n:Int} {d:Nat→Prop} (hr:InR N ls) {s:List Int × List Int} (h:Bi N ls f n s d):
  Bq N ls f ((outs n 0 ls).foldl (qdg ls n) s).1 ((outs n 0 ls).foldl (qdg ls n) s).2 fun v=>d v∨(v:Int)=n:=by
 have hm: ∀l∈outs n 0 ls,∃j,∃hj:j < ls.length,l=(j:Int)∧ls[j].1=n:=fun l hl=>by
  obtain⟨j,hj,e1,e2⟩:=qgz hl
  exact⟨j,hj,by rw [e1];simp,e2⟩
 obtain⟨h1,h2,h3⟩:=Bi.all hr (outs n 0 ls) hm h
 have n0:=h.n0
 refine⟨h1.len,h1.inq,h1.few,by have:=h.le;omega,h1.val,h1.from_,fun v hv h0=>?_,fun v hv x hx e=>?_,h1.start,by omega⟩
 ·rcases h1.done v hv h0 with q | q | q
  ·exact .inl (.inl q)
  ·exact .inr q
  ·exact .inl (.inr q)
 ·rcases hv with hv | hv
  ·exact h1.clo v hv x hx e
  ·obtain⟨j,hj,rfl⟩:=List.getElem_of_mem hx
   have hg:ls.getD j (0,0)=ls[j]:=by simp [List.getD,hj]
   obtain⟨⟨a0,a1⟩,_⟩:=hr _ hx
   have:=h3 (j:Int) (by have:=qdA (n:=n) (i:=0) hj (by omega);simpa using this)
   rw [Int.toNat_natCast,hg] at this
   exact this
end Go.GP
/- A map that counts links, each of which it has once. -/
namespace Go.GP
open Go Go.Idl
structure PairMap (P:Program) (t:TypeId):Prop where
 ex: ∃k e,tmp P t=some (k,e)∧tkey P k=some (true, [.int .i64, .int .i64])∧tag P k=some true∧(tzv P e).bind cstv=some (sci .i64 0)
variable {P:Program} {t:TypeId} {G:Nat→Option IBlk} {b:Nat} {l:List (Int × Int)} {x y:Int}
end Go.GP
namespace Go.GP
open Go Go.Idl
end Go.GP
namespace Go.GP
open Go Go.Idl
/-! ### for regions that draw their order -/
variable {a b:Int} {l:List (Int × Int)} {v:IV} {i:Nat}
end Go.GP
