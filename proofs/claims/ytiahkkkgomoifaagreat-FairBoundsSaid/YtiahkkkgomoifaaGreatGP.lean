/- Graphs: links found, links from a node and to one, distances, and which graphs may be. No program in sight. -/
import Derived.Test.YtiahkkkgomoifaaGreatIdTx
set_option linter.unusedSimpArgs false
set_option linter.unusedVariables false
namespace Go.GP
/-! ### distances -/
def relax (k:Int) (out:List Int) (x:Int × Int):List Int:=
 if out.getD x.1.toNat 0=k∧out.getD x.2.toNat 0 < 0 then out.set x.2.toNat (k+1) else out
def distGo (ls:List (Int × Int)):Nat→Nat→List Int→List Int
 | 0,_,out=>out
 | f+1,k,out=>distGo ls f (k+1) (ls.foldl (relax k) out)
def InR (N:Nat) (ls:List (Int × Int)):Prop:= ∀x∈ls,(0≤x.1∧x.1 < N)∧0≤x.2∧x.2 < N
theorem relax_length {k:Int} {out:List Int} {x:Int × Int}:(relax k out x).length=out.length:=by unfold relax;split<;>simp
theorem fold_length {k:Int}: ∀ {ls:List (Int × Int)} {out:List Int},(ls.foldl (relax k) out).length=out.length
 | [],out=>rfl
 | x::r,out=>by rw [List.foldl_cons,fold_length,relax_length]
inductive Reach (ls:List (Int × Int)) (r:Nat):Nat→Prop where
 | refl:Reach ls r r
 | step {a b:Int}:Reach ls r a.toNat→(a,b)∈ls→Reach ls r b.toNat
theorem Reach.trans {ls:List (Int × Int)} {r m n:Nat} (h:Reach ls r m) (k:Reach ls m n):Reach ls r n:=by
 induction k with
 | refl=>exact h
 | step _ hm ih=>exact .step ih hm
structure Lv (N:Nat) (ls:List (Int × Int)) (r:Nat) (k:Int) (o:Nat→Int):Prop where
 lo: ∀v,v < N→o v= -1∨0≤o v∧o v≤k
 down: ∀v,v < N→1≤o v→ ∃u,u < N∧o u=o v - 1
 from_: ∀v,v < N→0≤o v→Reach ls r v
 start:o r=0
def at' (o:List Int) (v:Nat):Int:=o.getD v 0
theorem at_set {o:List Int} {v w:Nat} {c:Int} (hw:w < o.length):at' (o.set w c) v=if v=w then c else at' o v:=by
 unfold at' List.getD
 rw [List.getElem?_set]
 by_cases e:w=v
 ·subst e;simp [hw]
 ·simp [e,Ne.symm e]
theorem round_one {N:Nat} {ls:List (Int × Int)} {r:Nat} {k:Int} (hk:0≤k): ∀(l:List (Int × Int)) (o:List Int),(∀x∈l,x∈ls∧((0≤x.1∧x.1 < N)∧0≤x.2∧x.2 < N))→o.length=N→Lv N ls r (k+1) (at' o)→
  Lv N ls r (k+1) (at' (l.foldl (relax k) o))∧(∀v,v < N→0≤at' o v→at' (l.foldl (relax k) o) v=at' o v)∧
  (∀v,v < N→at' o v < 0→at' (l.foldl (relax k) o) v < 0∨at' (l.foldl (relax k) o) v=k+1)∧ ∀x∈l,at' o x.1.toNat=k→0≤at' (l.foldl (relax k) o) x.2.toNat
 | [],o,_,_,h=>⟨h,fun _ _ _=>rfl,fun _ _ q=> .inl q,fun x hx=>by cases hx⟩
 | x::l,o,hx,hl,h=>by
   obtain⟨hm,⟨a0,a1⟩,b0,b1⟩:=hx x (List.mem_cons_self ..)
   have hbn:x.2.toNat < o.length:=by omega
   have one:Lv N ls r (k+1) (at' (relax k o x))∧(∀v,v < N→0≤at' o v→at' (relax k o x) v=at' o v)∧
     (∀v,v < N→at' o v < 0→at' (relax k o x) v < 0∨at' (relax k o x) v=k+1)∧(at' o x.1.toNat=k→0≤at' (relax k o x) x.2.toNat):=by
    unfold relax
    split
    ·rename_i q
     obtain⟨q1,q2⟩:=q
     change at' o x.1.toNat=k at q1
     change at' o x.2.toNat < 0 at q2
     refine⟨⟨fun v hv=>?_,fun v hv hv1=>?_,fun v hv hv0=>?_,?_⟩,fun v hv hv0=>?_,fun v hv hv0=>?_,fun _=>?_⟩
     ·rw [at_set hbn];split
      ·right;omega
      ·exact h.lo v hv
     ·rw [at_set hbn] at hv1 ⊢
      by_cases e:v=x.2.toNat
      ·rw [if_pos e]
       refine⟨x.1.toNat,by omega,?_⟩
       rw [at_set hbn,if_neg (by rintro e2;rw [e2] at q1;omega)];omega
      ·rw [if_neg e] at hv1 ⊢
       obtain⟨u,hu,e2⟩:=h.down v hv hv1
       refine⟨u,hu,?_⟩
       rw [at_set hbn,if_neg (by rintro e3;rw [e3] at e2;omega)];exact e2
     ·rw [at_set hbn] at hv0
      by_cases e:v=x.2.toNat
      ·subst e
       exact .step (a:=x.1) (h.from_ _ (by omega) (by omega)) hm
      ·rw [if_neg e] at hv0;exact h.from_ v hv hv0
     ·rw [at_set hbn,if_neg (by rintro e;rw [←e] at q2;have:=h.start;omega)];exact h.start
     ·rw [at_set hbn,if_neg (by rintro e;rw [e] at hv0;omega)]
     ·rw [at_set hbn];split
      ·right;rfl
      ·left;exact hv0
     ·rw [at_set hbn,if_pos rfl];omega
    ·rename_i q
     refine⟨h,fun _ _ _=>rfl,fun _ _ q=> .inl q,fun e=>?_⟩
     rcases h.lo x.2.toNat (by omega) with e2 | e2
     ·exact absurd ⟨e,by show at' o x.2.toNat < 0;omega⟩ q
     ·exact e2.1
   obtain⟨o1,o2,o3,o4⟩:=one
   obtain⟨r1,r2,r3,r4⟩:=round_one hk l (relax k o x) (fun y hy=>hx y (List.mem_cons_of_mem _ hy)) (by rw [relax_length,hl]) o1
   rw [List.foldl_cons]
   refine⟨r1,fun v hv h0=>?_,fun v hv h0=>?_,fun y hy e=>?_⟩
   ·rw [r2 v hv (by rw [o2 v hv h0];exact h0),o2 v hv h0]
   ·rcases o3 v hv h0 with q | q
    ·exact r3 v hv q
    ·right;rw [r2 v hv (by omega)];exact q
   ·rcases List.mem_cons.1 hy with rfl | hy
    ·have:=o4 e
     rw [r2 _ (by omega) this];exact this
    ·obtain⟨_,⟨c0,c1⟩,d0,d1⟩:=hx y (List.mem_cons_of_mem _ hy)
     exact r4 y hy (by rw [o2 _ (by omega) (by omega)];exact e)
theorem rounds {N:Nat} {ls:List (Int × Int)} {r:Nat} (hr:InR N ls): ∀(f k:Nat) (o:List Int),o.length=N→Lv N ls r k (at' o)→(∀x∈ls,0≤at' o x.1.toNat→at' o x.1.toNat < k→0≤at' o x.2.toNat)→
  Lv N ls r (k+f:Nat) (at' (distGo ls f k o))∧ ∀x∈ls,0≤at' (distGo ls f k o) x.1.toNat→at' (distGo ls f k o) x.1.toNat < (k+f:Nat)→0≤at' (distGo ls f k o) x.2.toNat
 | 0,k,o,_,h,hc=>⟨h,hc⟩
 | f+1,k,o,hl,h,hc=>by
   have h':Lv N ls r ((k:Int)+1) (at' o):=⟨fun v hv=>by rcases h.lo v hv with q | q;exact .inl q;right;omega,h.down,h.from_,h.start⟩
   obtain⟨r1,r2,r3,r4⟩:=round_one (k:=(k:Int)) (by omega) ls o (fun x hx=>⟨hx,hr x hx⟩) hl h'
   have:=rounds hr f (k+1) (ls.foldl (relax k) o) (by rw [fold_length,hl]) (by simpa using r1) (fun x hx h0 h1=>by
    obtain⟨⟨a0,a1⟩,b0,b1⟩:=hr x hx
    have hoa:0≤at' o x.1.toNat:=by
     rcases h.lo x.1.toNat (by omega) with q | q
     ·rcases r3 x.1.toNat (by omega) (by omega) with q2 | q2<;>omega
     ·exact q.1
    have ea:=r2 x.1.toNat (by omega) hoa
    rw [ea] at h1
    rcases Int.lt_or_le (at' o x.1.toNat) k with q | q
    ·have:=hc x hx hoa q
     rw [r2 x.2.toNat (by omega) this];exact this
    ·exact r4 x hx (by omega))
   rw [show k+(f+1)=k+1+f by omega]
   exact this
theorem range_le: ∀(m:Nat) (l:List Int),(∀i:Nat,i < m→(i:Int)∈l)→m≤l.length
 | 0,_,_=>Nat.zero_le _
 | m+1,l,h=>by
   have hm:=h m (by omega)
   have:=range_le m (l.erase (m:Int)) fun i hi=>(List.mem_erase_of_ne (by omega)).2 (h i (by omega))
   rw [List.length_erase_of_mem hm] at this
   have:0 < l.length:=List.length_pos_of_mem hm
   omega
theorem Lv.top {N:Nat} {ls:List (Int × Int)} {r:Nat} {k:Int} {o:List Int} (hl:o.length=N) (h:Lv N ls r k (at' o)) {v:Nat} (hv:v < N):at' o v < N:=by
 have at_mem: ∀u,u < N→at' o u∈o:=fun u hu=>by
  have:at' o u=o[u]'(by omega):=by simp [at',List.getD,hl,hu]
  rw [this];exact List.getElem_mem _
 have key: ∀j:Nat,(∃u,u < N∧at' o u=(j:Int))→ ∀i:Nat,i≤j→(i:Int)∈o:=by
  intro j
  induction j with
  | zero=>
    rintro⟨u,hu,e⟩ i hi
    obtain rfl:i=0:=by omega
    rw [←e];exact at_mem u hu
  | succ j ih=>
    rintro⟨u,hu,e⟩ i hi
    rcases Nat.lt_or_ge i (j+1) with q | q
    ·obtain⟨w,hw,e2⟩:=h.down u hu (by omega)
     exact ih ⟨w,hw,by omega⟩ i (by omega)
    ·obtain rfl:i=j+1:=by omega
     rw [←e];exact at_mem u hu
 rcases h.lo v hv with q | q
 ·omega
 ·have:=range_le ((at' o v).toNat+1) o fun i hi=>key (at' o v).toNat ⟨v,hv,by omega⟩ i (by omega)
  omega
/-! ### which graphs may be -/
end Go.GP
