/- Facts that the proofs of this claim lean on. -/
import Derived.Test.YtfhhdgkhajkapaaGreatNnL
import Derived.Test.YtfhhdgkhajkapaaGreatNnF
import Derived.Test.YtfhhdgkhajkapaaGreatNzPl
import Derived.Test.YtfhhdgkhajkapaaGreatNzTk
import Derived.Test.YtfhhdgkhajkapaaGreatNzP3
set_option linter.unusedSimpArgs false
set_option linter.unusedVariables false
/- A step of the plain system, and what a host does of it. -/
namespace Go.Proofs.NO
open Go Go.Idl Go.Proofs Go.GP
theorem Lnk.le {e:Int} {l:List (Int × Int)} {out:List Int} {inn:List (Int × Int)} (h:Lnk e l out inn):l.length≤500∧inn.length≤500∧out.length≤500∧0≤e:=by
 have h1:=qkn (qhl h.hr).2 h.mix
 have h2:=h.h5
 have h3:=h.he
 rw [h.hl]
 omega
section
variable {N:Int} {ls:List (Int × Int)} {T:List Nd} {t:Int} {c:Cf} {hs:List Hs} (s:Sys N ls T t c hs)
include s
theorem Sys.five {n:Nat} {h:Hs} (hn:hs[n]? =some h):h.inn.length≤5∧h.out.length≤5:=by
 have hh:=s.hst n h hn
 have ln:n < hs.length:=qab hn
 have hl:=s.len
 have h6:=s.tab.1
 have i5:=qjZ h6 (n:=(n:Int)) ⟨by omega,by omega⟩
 have o5:=qie h6 (n:=(n:Int)) ⟨by omega,by omega⟩
 rw [hh.hi,hh.ho]
 exact⟨i5,o5⟩
theorem Sys.inl {n j:Nat} {h:Hs} (hn:hs[n]? =some h) {iv:List (Int × Int)} (ho:h.inn[j]? =some iv):iv.length≤500:=by
 have hh:=s.hst n h hn
 have lj:j < (ins (n:Int) 0 ls).length:=by rw [←hh.hi];exact qab ho
 obtain⟨k,e,hk,hx⟩:=qg1 (List.getElem_mem lj)
 have hkj:(ins (n:Int) 0 ls)[j]? =some (k:Int):=by rw [List.getElem?_eq_getElem lj,e,Nat.zero_add]
 obtain⟨a,b,o',j',ha,hb,e1,e2,e3,e4,e5,e6⟩:=s.ends hk
 rw [List.getElem?_eq_getElem hk] at e1
 have eb:b=n:=by have:=congrArg Prod.snd (Option.some.inj e1);rw [hx] at this;simp at this;omega
 subst eb
 rw [hn] at e3
 cases e3
 obtain⟨e',l',ov',iv',q1,q2,q3,q4,q5⟩:=s.lnk k a _ o' j ha h (by rw [List.getElem?_eq_getElem hk];exact e1) e2 hn e4 hkj
 rw [ho] at q4
 cases q4
 exact q5.le.2.1
theorem Sys.gH {n:Nat} {h:Hs} (hn:hs[n]? =some h):gHs h∧ ∀l∈h.inn,UpH l∧l.length≤1000:=by
 obtain⟨h1,h2⟩:=s.five hn
 refine⟨⟨by omega,by omega,fun x hx=>?_,fun x hx=>?_⟩,fun x hx=>?_⟩
 ·obtain⟨j,hj⟩:=List.mem_iff_getElem?.1 hx
  have:=s.inl hn hj
  omega
 ·obtain⟨j,hj⟩:=List.mem_iff_getElem?.1 hx
  obtain⟨k,e,l,iv,q1,q2⟩:=s.row hn hj
  have:=q2.h5
  omega
 ·obtain⟨j,hj⟩:=List.mem_iff_getElem?.1 hx
  have h3:=s.inl hn hj
  refine⟨fun a b hb hab=>?_,by omega⟩
  exact List.pairwise_iff_getElem.1 (qhm (s.inrow hn hj)).1 a b (by omega) hb hab
theorem Sys.LE {k:Nat}:(∀l,c.L[k]? =some l→l.length≤500)∧ ∀e,c.E[k]? =some e→0≤e:=by
 rcases Nat.lt_or_ge k ls.length with hk | hk
 ·obtain⟨a,b,o,j,p,q,e1,e2,e3,e4,e5,e6⟩:=s.ends hk
  obtain⟨e',l',ov,iv,q1,q2,q3,q4,q5⟩:=s.lnk k a b o j p q e1 e2 e3 e4 e5
  obtain⟨z1,z2,z3,z4⟩:=q5.le
  exact⟨fun l hl=>by rw [q2] at hl;cases hl;exact z1,fun e he=>by rw [q1] at he;cases he;exact z4⟩
 ·have h1:=s.ll
  have h2:=s.el
  exact⟨fun l hl=>by have:=qab hl;omega,fun e he=>by have:=qab he;omega⟩
def qf6 (ls:List (Int × Int)) (p:Sp):Int:=
 if p.kind=0 then p.node else if p.link < 0∨(ls.length:Int)≤p.link then -1 else((ls[p.link.toNat]?).getD (0,0)).2
def qjh (ls:List (Int × Int)) (T:List Nd) (ap:IV) (c:Cf) (p:Sp) (h h':Hs):Prop:=
 (p.kind=0∧ ∃sent,Pure Tryz.prog 27 [ap,lHs h,sci .i64 p.k] (qlp (h',sent,0)))∨
 (p.kind=1∧ ∃(m:Int × Int) (i k:Nat) (l:List (Int × Int)),p.link=k∧c.L[k]? =some l∧idxM p.seq 0 l=i∧l[i]? =some m∧Pure Tryz.prog 29 [ap,lHs h,sci .i64 k, .agg [sci .i64 m.1,sci .i64 m.2]] (.tup [lHs h',sci .i64 0]))
theorem Sys.step (ff:Bool) (room:Nat) (acts:List (Int × Int × Int)) (hT:qd3 T) (ht:0≤t∧t≤1000) (p:Sp):
  ∃r:Cf × Int,Pure Tryz.prog 23 [lAp N ls T ff,lC c,lSp p] (lApd r)∧
   (r.2≠0∨(r.2=0∧ ∃(n:Nat) (h h':Hs),hs[n]? =some h∧qf6 ls p=n∧Sys N ls T (t+1) r.1 (hs.set n h')∧qjh ls T (lApp ⟨N,ls,T,ff,room,acts⟩) c p h h')):=by
 have hlen:=s.len
 have h6:=s.tab.1.2.1
 have h30:=s.tab.1.2.2.1
 have hsl:=s.sl
 have hll:=s.ll
 have hel:=s.el
 have hTl:=s.tab.2.1
 by_cases k0:p.kind=0
 ·by_cases hb:p.node < 0∨N≤p.node
  ·exact⟨(zCf0,1),qd0 N ls T ff c p _ k0 (pickBad_spec N ls T ff c p hb), .inl (by decide)⟩
  obtain⟨n,en⟩:=Int.eq_ofNat_of_zero_le (show 0≤p.node by omega)
  have ln:n < hs.length:=by omega
  have hn:=List.getElem?_eq_getElem ln
  generalize hs[n]=h at hn
  have hh:=s.hst n h hn
  obtain⟨x,st,hx,hq,hm⟩:=hh.node s hn
  obtain⟨j,ej⟩:=Int.eq_ofNat_of_zero_le hh.h0
  have ejn:h.state.toNat=j:=by omega
  have hq':x.states[j]? =some st:=by rw [←ejn];exact hq
  have hS':=hh.hS
  have hp: ∀y∈st.picks,y.2.length≤1000∧ ∀z∈y.2,((n:Int),z.1)∈ls:=fun y hy=>by
   obtain⟨q,hq⟩:=List.mem_iff_getElem?.1 hy
   have hq1:=hm.2.2.1.2.2 q y hq
   refine⟨by have:=hq1.2.1;omega,fun z hz=>?_⟩
   obtain⟨u,hu⟩:=List.mem_iff_getElem?.1 hz
   exact(hq1.2.2 u z hu).1
  obtain⟨g1,g2⟩:=s.gH hn
  have A:=qd0 N ls T ff c p _ k0 (qnn N ls T ff c p n j x st en (by omega) (by rw [hS',ej]) hx hq' (by omega) hp hll hel (by omega)
   (fun l hl=>by obtain⟨k,hk⟩:=List.mem_iff_getElem?.1 hl;have:=(s.LE (k:=k)).1 l hk;omega) (fun e he=>by obtain⟨k,hk⟩:=List.mem_iff_getElem?.1 he;have:=(s.LE (k:=k)).2 e hk;omega))
  have t1:=hh.t1
  have t0:=hh.t0
  have hnn:=hh.hn
  have B:=qmH ⟨N,ls,T,ff,room,acts⟩ h p.k n j x st hnn ej hx hq' g1 (by simp only;omega) (fun y hy=>⟨by have:=(hp y hy).1;omega,fun z hz=>by rw [hnn];exact(hp y hy).2 z hz⟩) (by simp only [hnn];exact hh.ho) ⟨t0,by omega⟩
  refine⟨_,A,?_⟩
  rcases s.pick hn hx hq p.k with ⟨e,e1,e2,e3⟩ | ⟨c',h',sent,e1,e2,e3,e4⟩
  ·rw [e2];exact .inl e1
  ·rw [e1]
   rw [e2] at B
   exact .inr ⟨rfl,n,h,h',hn,by rw [qf6,if_pos k0,en],e3, .inl ⟨k0,sent,B⟩⟩
 by_cases k1:p.kind=1
 rotate_left
 ·exact⟨(zCf0,1),qiv N ls T ff c p k0 k1, .inl (by decide)⟩
 by_cases hb:p.link < 0∨(ls.length:Int)≤p.link
 ·exact⟨(zCf0,1),qeM N ls T ff c p _ k1 (qkZ N ls T ff c p hb), .inl (by decide)⟩
 obtain⟨k,ek⟩:=Int.eq_ofNat_of_zero_le (show 0≤p.link by omega)
 have lk:k < ls.length:=by omega
 obtain⟨a,b,o,i,ha,h,e1,e2,hn,e4,e5,e6⟩:=s.ends lk
 have hh:=s.hst b h hn
 obtain⟨x,st,hx,hq,hm⟩:=hh.node s hn
 obtain⟨j,ej⟩:=Int.eq_ofNat_of_zero_le hh.h0
 have ejn:h.state.toNat=j:=by omega
 have hq':x.states[j]? =some st:=by rw [←ejn];exact hq
 have hS':=hh.hS
 obtain⟨g1,g2⟩:=s.gH hn
 have hmk:st.takes.length≤1000000:=((hT.2 b x hx).2 j st hq').2.2
 have A:=qeM N ls T ff c p _ k1 (qjN N ls T ff c p k a b j x st ek e1 (by rw [hS',ej]) hx hq' (by omega) hll (by omega) (by omega)
  (fun l hl=>by obtain⟨k,hk⟩:=List.mem_iff_getElem?.1 hl;have:=(s.LE (k:=k)).1 l hk;omega) hmk)
 refine⟨_,A,?_⟩
 obtain⟨e',l,ov,iv,q1,q2,q3,q4,q5⟩:=s.lnk k a b o i ha h e1 e2 hn e4 e5
 unfold qjc
 simp only [q2,Option.getD_some]
 by_cases hi:idxM p.seq 0 l < 0∨ff=true∧0 < idxM p.seq 0 l
 ·rw [if_pos hi];exact .inl (by decide)
 rw [if_neg hi]
 rcases idxM_ge (q:=p.seq) (l:=l) (s:=0) with z | ⟨u,u1,u2⟩
 ·omega
 rw [Nat.zero_add] at u2
 rw [u2,Int.toNat_natCast]
 have hmu:=List.getElem?_eq_getElem u1
 obtain⟨h',z1,z2,z3⟩:=s.take e1 hn hx hq q2 hmu
 have t1:=hh.t1
 have t0:=hh.t0
 have hnn:=hh.hn
 have B:=qmK ⟨N,ls,T,ff,room,acts⟩ h k l[u] b j x st hnn ej hx hq' g1 (by simp only;omega) hmk (by simp only [hnn];exact hh.hi) g2 ⟨t0,by omega⟩
 simp only at B
 rw [z1] at B
 refine .inr ⟨rfl,b,h,h',hn,?_,?_, .inr ⟨k1,l[u],u,k,l,ek,q2,u2,hmu,B⟩⟩
 ·rw [qf6,if_neg k0,if_neg (by omega),ek,Int.toNat_natCast,e1];rfl
 ·rw [e1,hmu,hS']
  exact z3
end
end Go.Proofs.NO
/- A piece without logs; where a step is done. -/
namespace Go.Proofs.NO
open Go Go.Idl Go.Proofs Go.GP
set_option maxHeartbeats 20000000
set_option maxRecDepth 100000
theorem qkL (s:Sp):Pure Tryz.prog 26 [lSp s] (lSp s):=by
 refine qah 200 (fn:=Tryz.f26) Tryz.func26 rfl (by simp [Tryz.ntmps26]) zB zB fun hs=>?_
 ((try refine zW ?_);(try with_reducible exact True.intro))
theorem qju (N:Int) (ls:List (Int × Int)) (s:Sp):Pure Tryz.prog 24 [eG N ls,lSp s] (sci .i64 (qf6 ls s)):=by
 obtain⟨kind,node,k,link,seq⟩:=s
 unfold qf6
 simp only
 refine qah 200 (fn:=Tryz.f24) Tryz.func24 rfl (by simp [Tryz.ntmps24]) zB zB fun hs=>?_
 try refine zW ?_
 by_cases h0:kind=0
 ·subst h0
  rw [if_pos rfl]
  ((try refine zO ?_);(try with_reducible exact True.intro))
 rw [if_neg h0]
 have e0:(kind==0)=false:=beq_eq_false_iff_ne.2 h0
 (try simp (disch:=omega) only [go_sem,simprocAttr,zD,zE,e0])
 by_cases h1:link < 0
 ·rw [if_pos (.inl h1)]
  ((try refine zO ?_);(try with_reducible exact True.intro))
 by_cases h2:(ls.length:Int)≤link
 ·rw [if_pos (.inr h2)]
  ((try refine zO ?_);(try with_reducible exact True.intro))
 rw [if_neg (by omega)]
 obtain⟨i,rfl⟩:=Int.eq_ofNat_of_zero_le (show 0≤link by omega)
 have li:i < ls.length:=by omega
 rw [Int.toNat_natCast,List.getElem?_eq_getElem li,Option.getD_some]
 generalize hx:ls[i]=x
 obtain⟨x1,x2⟩:=x
 (try simp (disch:=omega) only [go_sem,simprocAttr,zD,zE,eII,hx])
end Go.Proofs.NO
/- All steps of a list, in both systems. -/
namespace Go.Proofs.NO
open Go Go.Idl Go.Proofs Go.GP
theorem Sys.mono {N:Int} {ls:List (Int × Int)} {T:List Nd} {t u:Int} {c:Cf} {hs:List Hs} (s:Sys N ls T t c hs) (h:t≤u):Sys N ls T u c hs:=
 ⟨s.tab,s.len,s.sl,s.ll,s.el,fun n x hn=>by
  have g:=s.hst n x hn
  exact⟨g.hn,g.hS,g.h0,g.hs,g.hi,g.ho,g.t0,by have:=g.t1;omega⟩,s.lnk⟩
def StepR (N:Int) (ls:List (Int × Int)) (T:List Nd) (ff:Bool) (ap:IV) (p:Sp) (x y:Cf × List Hs):Prop:=
 ∃r:Cf × Int,Pure Tryz.prog 23 [lAp N ls T ff,lC x.1,lSp p] (lApd r)∧
  ((r.2≠0∧y=x)∨(r.2=0∧r.1=y.1∧ ∃(n:Nat) (h h':Hs),x.2[n]? =some h∧qf6 ls p=n∧y.2=x.2.set n h'∧qjh ls T ap x.1 p h h'))
theorem Sys.next {N:Int} {ls:List (Int × Int)} {T:List Nd} {t:Int} {x:Cf × List Hs} (s:Sys N ls T t x.1 x.2) (ff:Bool) (room:Nat) (acts:List (Int × Int × Int)) (hT:qd3 T) (ht:0≤t∧t≤1000) (p:Sp):
  ∃y,StepR N ls T ff (lApp ⟨N,ls,T,ff,room,acts⟩) p x y∧Sys N ls T (t+1) y.1 y.2:=by
 obtain⟨r,h1,h2⟩:=s.step ff room acts hT ht p
 rcases h2 with h2 | ⟨h2,n,h,h',h3,h4,h5,h6⟩
 ·exact⟨x,⟨r,h1, .inl ⟨h2,rfl⟩⟩,s.mono (by omega)⟩
 ·exact⟨(r.1,x.2.set n h'),⟨r,h1, .inr ⟨h2,rfl,n,h,h',h3,h4,rfl,h6⟩⟩,h5⟩
theorem Sys.runs {N:Int} {ls:List (Int × Int)} {T:List Nd} {x:Cf × List Hs} (s:Sys N ls T 0 x.1 x.2) (ff:Bool) (room:Nat) (acts:List (Int × Int × Int)) (hT:qd3 T) (l:List Sp):
  ∀m:Nat,m≤l.length→m≤40→ ∃X:Nat→Cf × List Hs,X 0=x∧(∀i,i≤m→Sys N ls T i (X i).1 (X i).2)∧ ∀i p,i < m→l[i]? =some p→StepR N ls T ff (lApp ⟨N,ls,T,ff,room,acts⟩) p (X i) (X (i+1))
 | 0,_,_=>by
   refine⟨fun _=>x,rfl,fun i hi=>?_,fun i p hi=>by omega⟩
   obtain rfl:i=0:=by omega
   exact s
 | m+1,h1,h2=>by
   obtain⟨X,x1,x2,x3⟩:=Sys.runs s ff room acts hT l m (by omega) (by omega)
   have lm:m < l.length:=by omega
   obtain⟨y,y1,y2⟩:=(x2 m (Nat.le_refl m)).next ff room acts hT ⟨by omega,by omega⟩ l[m]
   refine⟨fun i=>if i≤m then X i else y,by simp [x1],fun i hi=>?_,fun i p hi hp=>?_⟩
   ·by_cases q:i≤m
    ·simp only [q,if_true];exact x2 i q
    ·obtain rfl:i=m+1:=by omega
     simp only [q,if_false]
     exact y2
   ·by_cases q:i+1≤m
    ·have:i≤m:=by omega
     simp only [q,this,if_true]
     exact x3 i p (by omega) hp
    ·obtain rfl:i=m:=by omega
     simp only [q,Nat.le_refl,if_true,if_false]
     rw [List.getElem?_eq_getElem lm] at hp
     cases hp
     exact y1
end Go.Proofs.NO
