/- Facts that the proofs of this claim lean on. -/
import Derived.Test.YtfhhdgkhajkapaaGreatNnI
import Derived.Test.YtfhhdgkhajkapaaGreatNS
import Derived.Test.YtfhhdgkhajkapaaGreatGPm
import Derived.Test.YtfhhdgkhajkapaaGreatNMg
set_option linter.unusedSimpArgs false
set_option linter.unusedVariables false
/- All hosts together, and the plain system: a delivery; where they begin. No program in sight. -/
namespace Go.Proofs.NO
open Go Go.Idl Go.Proofs Go.GP
theorem Sys.take {N:Int} {ls:List (Int × Int)} {T:List Nd} {t:Int} {c:Cf} {hs:List Hs} (s:Sys N ls T t c hs) {k a b i:Nat} (hk:ls[k]? =some ((a:Int),(b:Int))) {h:Hs} (hb:hs[b]? =some h) {x:Nd} {st:St} (hx:T[b]? =some x) (hq:x.states[h.state.toNat]? =some st)
  {l:List (Int × Int)} (hl:c.L[k]? =some l) {m:Int × Int} (hm:l[i]? =some m):
  ∃h',qf4 ls st h k m=(h',0)∧h'.state=qbC a m.2 h.state st.takes∧Sys N ls T (t+1) ⟨c.S.set b (qbC a m.2 h.state st.takes),c.L.set k (l.take i++l.drop (i+1)),c.E⟩ (hs.set b h'):=by
 have hh:=s.hst b h hb
 have may:=(s.tab.2.2 b _ hx).2.2.2 _ _ hq
 obtain⟨a',b',o,j,ha,hb',e1,e2,e3,e4,e5,e6⟩:=s.ends (qab hk)
 rw [hk] at e1
 have ea:a'=a:=by have:=congrArg (fun z=>(z.getD (0,0)).1) e1;simp at this;omega
 have eb:b'=b:=by have:=congrArg (fun z=>(z.getD (0,0)).2) e1;simp at this;omega
 subst ea eb
 rw [hb] at e3
 cases e3
 obtain⟨e,l',ov,iv,q1,q2,q3,q4,q5⟩:=s.lnk k _ _ o j ha h hk e2 hb e4 e5
 rw [hl] at q2
 cases q2
 obtain⟨m1,m2,m3⟩:=q5.msg (List.mem_of_getElem? hm)
 have hj:qax (k:Int) 0 (ins (b':Int) 0 ls)=(j:Int):=by rw [qbf (s:=0) qcH e5,Nat.zero_add]
 have htk: ∀u∈st.takes,StaP x.states.length u.2.2:=fun u hu=>by
  obtain⟨q,hq⟩:=List.mem_iff_getElem?.1 hu
  exact(may.2.2.2.1 q u hq).2.2.1
 have hsta:=qir (f:=(a':Int)) (a:=m.2) (d:=h.state) (m:=x.states.length) (l:=st.takes) htk ⟨hh.h0,hh.hs x hx⟩
 have hno:tB (∃y,iv[posL m.1 iv]? =some y∧y.1=m.1)=false:=qaU fun q=>by
  obtain⟨y,hy,e⟩:=(qkk (qhm q5.hr).1).1 q
  exact m3 y hy e
 have lb:b' < hs.length:=qab hb
 have lS:b' < c.S.length:=qab hh.hS
 have lk:k < c.L.length:=qab hl
 have lj:j < h.inn.length:=qab q4
 refine⟨⟨h.node,qbC a' m.2 h.state st.takes,h.steps+1,h.inn.set j (sIns iv m),h.out⟩,?_,rfl,?_⟩
 ·unfold qf4
  rw [hh.hn,hj,if_neg (by omega),Int.toNat_natCast,Int.toNat_natCast,q4,hk]
  simp only
  rw [hno,if_neg (by decide),qlD]
 ·refine⟨s.tab,by rw [List.length_set];exact s.len,by simp only [List.length_set];exact s.sl,by simp only [List.length_set];exact s.ll,s.el,fun n g hg=>?_,fun k2 a2 b2 o2 j2 ha2 hb2 hk2 hha hhb ho2 hj2=>?_⟩
  ·by_cases hbn:b'=n
   ·subst hbn
    rw [List.getElem?_set_self lb] at hg
    cases hg
    exact⟨hh.hn,by rw [List.getElem?_set_self lS],hsta.1,fun x' hx'=>by rw [hx] at hx';cases hx';exact hsta.2,by simp only [List.length_set];exact hh.hi,hh.ho,by have:=hh.t0;simp only;omega,by have:=hh.t1;simp only;omega⟩
   ·rw [List.getElem?_set_ne hbn] at hg
    have g0:=s.hst n g hg
    exact⟨g0.hn,by rw [List.getElem?_set_ne hbn];exact g0.hS,g0.h0,g0.hs,g0.hi,g0.ho,g0.t0,by have:=g0.t1;omega⟩
  ·have hA: ∃ha0,hs[a2]? =some ha0∧ha2.out=ha0.out:=by
    by_cases hq2:b'=a2
    ·subst hq2
     rw [List.getElem?_set_self lb] at hha
     cases hha
     exact⟨h,hb,rfl⟩
    ·rw [List.getElem?_set_ne hq2] at hha
     exact⟨ha2,hha,rfl⟩
   obtain⟨ha0,hha0,eo⟩:=hA
   by_cases hkk:k=k2
   ·subst hkk
    rw [hk] at hk2
    have ea2:a'=a2:=by have:=congrArg (fun z=>(z.getD (0,0)).1) hk2;simp at this;omega
    have eb2:b'=b2:=by have:=congrArg (fun z=>(z.getD (0,0)).2) hk2;simp at this;omega
    subst ea2 eb2
    rw [e2] at hha0
    cases hha0
    rw [List.getElem?_set_self lb] at hhb
    cases hhb
    obtain rfl:=qki ho2 e4
    obtain rfl:=qpb hj2 e5
    exact⟨e,_,ov,_,q1,by rw [List.getElem?_set_self lk],by rw [eo];exact q3,by simp only;rw [List.getElem?_set_self lj],q5.take hm⟩
   ·have hB: ∃hb0,hs[b2]? =some hb0∧hb2.inn[j2]? =hb0.inn[j2]? :=by
     by_cases hq2:b'=b2
     ·subst hq2
      rw [List.getElem?_set_self lb] at hhb
      cases hhb
      refine⟨h,hb,?_⟩
      simp only
      have:j≠j2:=fun q=>by
       subst q
       rw [e5] at hj2
       have:(k:Int)=k2:=by simpa using hj2
       exact hkk (by omega)
      rw [List.getElem?_set_ne this]
     ·rw [List.getElem?_set_ne hq2] at hhb
      exact⟨hb2,hhb,rfl⟩
    obtain⟨hb0,hhb0,ei⟩:=hB
    obtain⟨e9,l9,ov9,iv9,r1,r2,r3,r4,r5⟩:=s.lnk k2 a2 b2 o2 j2 ha0 hb0 hk2 hha0 hhb0 ho2 hj2
    exact⟨e9,l9,ov9,iv9,r1,by rw [List.getElem?_set_ne hkk];exact r2,by rw [eo];exact r3,by rw [ei];exact r4,r5⟩
def newHs (ls:List (Int × Int)) (T:List Nd) (n:Nat):Hs:=⟨n,((T[n]?).getD ⟨0, []⟩).start,0,List.replicate (ins n 0 ls).length [],List.replicate (outs n 0 ls).length []⟩
theorem Sys.new {N:Int} {ls:List (Int × Int)} {T:List Nd} (hT:TabP N ls T):Sys N ls T 0 (startC ls T) ((List.range T.length).map (newHs ls T)):=by
 have hg: ∀(n:Nat) (h:Hs),((List.range T.length).map (newHs ls T))[n]? =some h→n < T.length∧h=newHs ls T n:=fun n h hh=>by
  have l1:=qab hh
  rw [List.length_map,List.length_range] at l1
  rw [List.getElem?_map,List.getElem?_range l1] at hh
  exact⟨l1,(Option.some.inj hh).symm⟩
 refine⟨hT,by rw [List.length_map,List.length_range];exact hT.2.1,by simp only [startC,List.length_map];exact hT.2.1,by simp [startC],by simp [startC],fun n h hh=>?_,fun k a b o j ha hb hk hha hhb ho hj=>?_⟩
 ·obtain⟨ln,rfl⟩:=hg n h hh
  have hx:=List.getElem?_eq_getElem ln
  have hN:=hT.2.2 n _ hx
  have hst:(newHs ls T n).state=T[n].start:=by simp only [newHs,hx,Option.getD_some]
  exact⟨rfl,by rw [hst];simp [startC,ln],by rw [hst];exact hN.2.2.1.1,fun x hx'=>by rw [hx] at hx';cases hx';rw [hst];exact hN.2.2.1.2,by simp [newHs],by simp [newHs],by simp [newHs],by simp [newHs]⟩
 ·obtain⟨la,rfl⟩:=hg a ha hha
  obtain⟨lb,rfl⟩:=hg b hb hhb
  have lk:=qab hk
  have lo:=qab ho
  have lj:=qab hj
  refine⟨0, [], [], [],by simp [startC,lk],by simp [startC,lk],by simp [newHs,lo],by simp [newHs,lj],rfl,rfl,trivial,by simp,by simp,by simp⟩
theorem qno: ∀(N:Nat) (l:List Nat),l.Nodup→(∀n∈l,n < N)→l.length≤N
 | 0,l,_,h=>by
   cases l with
   | nil=>simp
   | cons a l=>exact absurd (h a (by simp)) (by omega)
 | N+1,l,hd,h=>by
   have h2:=qno N (l.filter (· != N)) (hd.filter _) fun n hn=>by
    obtain⟨h1,h2⟩:=List.mem_filter.1 hn
    have:=h n h1
    have h3:n≠N:=by simpa using h2
    omega
   have h3:l.length≤(l.filter (· != N)).length+1:=by
    clear h h2
    induction l with
    | nil=>simp
    | cons a l ih=>
      obtain⟨h1,h2⟩:=List.nodup_cons.1 hd
      have:=ih h2
      by_cases e:a=N
      ·subst e
       have h4:l.filter (· != a)=l:=List.filter_eq_self.2 fun x hx=>by
        have:x≠a:=fun q=>h1 (q ▸hx)
        simpa using this
       simp [h4]
      ·rw [List.filter_cons_of_pos (by simpa using e)]
       simp only [List.length_cons];omega
   omega
theorem qgh {N:Int} {ls:List (Int × Int)} (h: ∀(i:Nat) (x:Int × Int),ls[i]? =some x→qd2 N ls i x):ls.Nodup:=by
 rw [List.nodup_iff_pairwise_ne,List.pairwise_iff_getElem]
 intro i j hi hj hij e
 have h1:=(h i _ (List.getElem?_eq_getElem hi)).2.2.2.1
 have h2:=(h j _ (List.getElem?_eq_getElem hj)).2.2.2.1
 rw [e,h2] at h1
 omega
theorem qh7 (n:Int): ∀(ls:List (Int × Int)) (i:Nat),(ins n i ls).length=(ls.filter (fun x=>x.2==n)).length
 | [],i=>by simp [ins]
 | x::r,i=>by
   have:=qh7 n r (i+1)
   unfold ins
   by_cases e:x.2=n
   ·rw [if_pos e,List.filter_cons_of_pos (by simpa using e)];simp [this]
   ·rw [if_neg e,List.filter_cons_of_neg (by simpa using e)];exact this
theorem qhc (n:Int): ∀(ls:List (Int × Int)) (i:Nat),(outs n i ls).length=(ls.filter (fun x=>x.1==n)).length
 | [],i=>by simp [outs]
 | x::r,i=>by
   have:=qhc n r (i+1)
   unfold outs
   by_cases e:x.1=n
   ·rw [if_pos e,List.filter_cons_of_pos (by simpa using e)];simp [this]
   ·rw [if_neg e,List.filter_cons_of_neg (by simpa using e)];exact this
theorem few {N n:Int} {l:List Int} (hn:0≤n∧n < N) (h6:N≤6) (hd:l.Nodup) (h: ∀x∈l,0≤x∧x < N∧x≠n):l.length≤5:=by
 have h1:((n::l).map Int.toNat).Nodup:=by
  rw [List.nodup_iff_pairwise_ne,List.pairwise_map]
  have h2:(n::l).Nodup:=List.nodup_cons.2 ⟨fun q=>(h n q).2.2 rfl,hd⟩
  have h3: ∀x∈n::l,0≤x:=fun x hx=>by
   rcases List.mem_cons.1 hx with rfl | hx
   ·exact hn.1
   ·exact(h x hx).1
  rw [List.nodup_iff_pairwise_ne] at h2
  refine List.Pairwise.imp_of_mem (fun {a b} ha hb hab e=>hab ?_) h2
  have:=h3 a ha
  have:=h3 b hb
  omega
 have h2:=qno N.toNat _ h1 fun x hx=>by
  obtain⟨y,hy,rfl⟩:=List.mem_map.1 hx
  rcases List.mem_cons.1 hy with rfl | hy
  ·omega
  ·have:=h y hy;omega
 simp only [List.length_map,List.length_cons] at h2
 omega
theorem qjZ {N:Int} {ls:List (Int × Int)} (h:qcD N ls) {n:Int} (hn:0≤n∧n < N):(ins n 0 ls).length≤5:=by
 obtain⟨_,h6,_,hl,_⟩:=h
 have hd:=qgh hl
 rw [qh7,←List.length_map (f:=Prod.fst)]
 have hm: ∀x∈ls.filter (fun x=>x.2==n),x.2=n∧x∈ls:=fun x hx=>by
  obtain⟨h1,h2⟩:=List.mem_filter.1 hx
  exact⟨by simpa using h2,h1⟩
 refine few hn h6 ?_ fun x hx=>?_
 ·rw [List.nodup_iff_pairwise_ne,List.pairwise_map]
  have h2:=hd.filter (fun x=>x.2==n)
  refine List.Pairwise.imp_of_mem (fun {a b} ha hb hab e=>hab (Prod.ext e ?_)) h2
  rw [(hm a ha).1,(hm b hb).1]
 ·obtain⟨y,hy,rfl⟩:=List.mem_map.1 hx
  obtain⟨e,hy2⟩:=hm y hy
  obtain⟨q,hq⟩:=List.mem_iff_getElem?.1 hy2
  have:=hl q y hq
  exact⟨this.1.1,this.1.2,fun c=>this.2.2.1 (by rw [c,e])⟩
theorem qie {N:Int} {ls:List (Int × Int)} (h:qcD N ls) {n:Int} (hn:0≤n∧n < N):(outs n 0 ls).length≤5:=by
 obtain⟨_,h6,_,hl,_⟩:=h
 have hd:=qgh hl
 rw [qhc,←List.length_map (f:=Prod.snd)]
 have hm: ∀x∈ls.filter (fun x=>x.1==n),x.1=n∧x∈ls:=fun x hx=>by
  obtain⟨h1,h2⟩:=List.mem_filter.1 hx
  exact⟨by simpa using h2,h1⟩
 refine few hn h6 ?_ fun x hx=>?_
 ·rw [List.nodup_iff_pairwise_ne,List.pairwise_map]
  have h2:=hd.filter (fun x=>x.1==n)
  refine List.Pairwise.imp_of_mem (fun {a b} ha hb hab e=>hab (Prod.ext ?_ e)) h2
  rw [(hm a ha).1,(hm b hb).1]
 ·obtain⟨y,hy,rfl⟩:=List.mem_map.1 hx
  obtain⟨e,hy2⟩:=hm y hy
  obtain⟨q,hq⟩:=List.mem_iff_getElem?.1 hy2
  have:=hl q y hq
  exact⟨this.2.1.1,this.2.1.2,fun c=>this.2.2.1 (by rw [c,e])⟩
def pcL (h:Hs):Pc:=⟨h.node,h.state,h.steps,h.out.map fun l=>(l.length:Int),h.inn,h.out⟩
def pcF (h:Hs):Pc:=⟨h.node,h.state,h.steps,h.out.map fun l=>(l.length:Int),List.replicate h.inn.length [], []⟩
section
variable {N:Int} {ls:List (Int × Int)} {T:List Nd} {t:Int} {c:Cf} {hs:List Hs} (s:Sys N ls T t c hs)
include s
theorem Sys.conf:qdc N ls T c.S c.L c.E:=by
 refine⟨s.tab,s.sl,s.ll,s.el,fun n v hv=>?_,fun k l hl e he=>?_⟩
 ·have l1:=qab hv
  have h1:=s.len
  have h2:=s.sl
  have hh:=s.hst n _ (List.getElem?_eq_getElem (show n < hs.length by omega))
  have:=hh.hS
  rw [hv] at this
  have e:v=hs[n].state:=Option.some.inj this
  rw [e]
  exact⟨hh.h0,hh.hs⟩
 ·have l1:=qab hl
  obtain⟨a,b,o,j,ha,hb,e1,e2,e3,e4,e5,e6⟩:=s.ends (k:=k) (by have:=s.ll;omega)
  obtain⟨e',l',ov,iv,q1,q2,q3,q4,q5⟩:=s.lnk k a b o j ha hb e1 e2 e3 e4 e5
  rw [hl] at q2
  rw [he] at q1
  cases q1
  cases q2
  refine⟨?_,?_,?_⟩
  ·rw [q5.he,q5.hl];exact qn5 q5.ho
  ·rw [q5.he];omega
  ·rw [q5.he];have:=q5.h5;omega
theorem Sys.row {n o:Nat} {h:Hs} (hn:hs[n]? =some h) {ov:List Int} (ho:h.out[o]? =some ov): ∃k e l iv,(outs n 0 ls)[o]? =some ((k:Nat):Int)∧Lnk e l ov iv:=by
 have hh:=s.hst n h hn
 have lo:o < (outs (n:Int) 0 ls).length:=by rw [←hh.ho];exact qab ho
 obtain⟨k,e,hk,hx⟩:=qej (List.getElem_mem lo)
 have hko:(outs (n:Int) 0 ls)[o]? =some (k:Int):=by rw [List.getElem?_eq_getElem lo,e,Nat.zero_add]
 obtain⟨a,b,o',j,ha,hb,e1,e2,e3,e4,e5,e6⟩:=s.ends hk
 rw [List.getElem?_eq_getElem hk] at e1
 have ea:a=n:=by have:=congrArg Prod.fst (Option.some.inj e1);rw [hx] at this;simp at this;omega
 subst ea
 rw [hn] at e2
 cases e2
 obtain⟨e',l',ov',iv,q1,q2,q3,q4,q5⟩:=s.lnk k _ b o j h hb (by rw [List.getElem?_eq_getElem hk];exact e1) hn e3 hko e5
 rw [ho] at q3
 cases q3
 exact⟨k,e',l',iv,hko,q5⟩
end
end Go.Proofs.NO
/- What is built where all hosts tell at once. No program in sight. -/
namespace Go.Proofs.NO
open Go Go.Idl Go.Proofs Go.GP
theorem qhl: ∀ {l:List (Int × Int)} {last:Int},RisP last l→(∀m∈l,last < m.1)∧(qaO l).Nodup
 | [],_,_=>⟨by simp,by simp [qaO]⟩
 | x::r,last,h=>by
   obtain⟨h1,h2⟩:=qhl h.2
   have h0:=h.1.1
   refine⟨fun m hm=>?_,?_⟩
   ·rcases List.mem_cons.1 hm with rfl | q
    ·exact h0
    ·have:=h1 m q;omega
   ·rw [qaO,List.map_cons,List.nodup_cons]
    refine⟨fun q=>?_,h2⟩
    obtain⟨m,hm,e⟩:=List.mem_map.1 q
    have:=h1 m hm
    omega
theorem Lnk.mix {e:Int} {l:List (Int × Int)} {out:List Int} {inn:List (Int × Int)} (h:Lnk e l out inn): ¬MixP out inn:=by
 rintro⟨m,hm,q | q⟩
 ·have h1:=(qhl h.hr).2
  have:(qaO inn).count m.1≤1:=List.nodup_iff_count.1 h1 m.1
  omega
 ·exact q (h.hi m hm)
section
variable {N:Int} {ls:List (Int × Int)} {T:List Nd} {t:Int} {c:Cf} {hs:List Hs} (s:Sys N ls T t c hs)
include s
theorem Sys.inrow {n j:Nat} {h:Hs} (hn:hs[n]? =some h) {iv:List (Int × Int)} (ho:h.inn[j]? =some iv):RisP 0 iv:=by
 have hh:=s.hst n h hn
 have lj:j < (ins (n:Int) 0 ls).length:=by rw [←hh.hi];exact qab ho
 obtain⟨k,e,hk,hx⟩:=qg1 (List.getElem_mem lj)
 have hkj:(ins (n:Int) 0 ls)[j]? =some (k:Int):=by rw [List.getElem?_eq_getElem lj,e,Nat.zero_add]
 obtain⟨a,b,o',j',ha,hb,e1,e2,e3,e4,e5,e6⟩:=s.ends hk
 rw [List.getElem?_eq_getElem hk] at e1
 have eb:b=n:=by have:=congrArg Prod.snd (Option.some.inj e1);rw [hx] at this;simp at this;omega
 subst eb
 rw [hn] at e3
 cases e3
 obtain⟨e',l',ov',iv',q1,q2,q3,q4,q5⟩:=s.lnk k a _ o' j ha h (by rw [List.getElem?_eq_getElem hk];exact e1) e2 hn e4 hkj
 rw [ho] at q4
 cases q4
 exact q5.hr
theorem Sys.pc {n:Nat} {h:Hs} (ht:t≤2147483647) (hn:hs[n]? =some h):PcAt ls T n (pcL h)∧PcAt ls T n (pcF h):=by
 have hh:=s.hst n h hn
 have ln:n < hs.length:=qab hn
 have hl:=s.len
 have hT:=s.tab.2.1
 have h6:=s.tab.1
 have lT:n < T.length:=by omega
 have hN:=s.tab.2.2 n _ (List.getElem?_eq_getElem lT)
 have hs7:=hh.hs _ (List.getElem?_eq_getElem lT)
 have hs8:=hN.2.1
 have i5:=qjZ h6 (n:=(n:Int)) ⟨by omega,by omega⟩
 have o5:=qie h6 (n:=(n:Int)) ⟨by omega,by omega⟩
 have n5:(n:Int)≤5:=by have:=h6.2.1;omega
 have row: ∀ {o:Nat} {ov:List Int},h.out[o]? =some ov→ov.length≤500∧LetsP ov:=fun {o ov} ho=>by
  obtain⟨k,e,l,iv,q1,q2⟩:=s.row hn ho
  exact⟨q2.h5,fun j x _ hx=>q2.ho x (List.mem_of_getElem? hx)⟩
 have sent: ∀(j:Nat) (x:Int),j < (h.out.map fun l=>(l.length:Int)).length→(h.out.map fun l=>(l.length:Int))[j]? =some x→0≤x∧x≤500:=fun j x hj hx=>by
  rw [List.getElem?_map] at hx
  cases q:h.out[j]? with
  | none=>rw [q] at hx;cases hx
  | some ov=>
    rw [q] at hx
    have:=(row q).1
    have e:(ov.length:Int)=x:=Option.some.inj hx
    omega
 have st1: ∀x,T[n]? =some x→h.state < x.states.length:=hh.hs
 have t1:=hh.t1
 constructor
 ·refine⟨hh.hn,⟨by have:=hh.hn;simp only [pcL];omega,⟨hh.h0,by simp only [pcL];omega⟩,hh.t0,by simp only [pcL];omega,?_,?_,?_,sent,fun j l hj hl2=>s.inrow hn hl2,fun j l hj hl2=>row hl2⟩,st1,?_,hh.hi⟩
  ·simp only [pcL,List.length_map];rw [hh.ho];exact o5
  ·simp only [pcL];rw [hh.hi];exact i5
  ·simp only [pcL];rw [hh.ho];exact o5
  ·simp only [pcL,List.length_map];exact hh.ho
 ·refine⟨hh.hn,⟨by have:=hh.hn;simp only [pcF];omega,⟨hh.h0,by simp only [pcF];omega⟩,hh.t0,by simp only [pcF];omega,?_,?_,?_,sent,fun j l hj hl2=>?_,fun j l hj hl2=>?_⟩,st1,?_,?_⟩
  ·simp only [pcF,List.length_map];rw [hh.ho];exact o5
  ·simp only [pcF,List.length_replicate];rw [hh.hi];exact i5
  ·simp [pcF]
  ·have:l= []:=by
    have:=List.mem_of_getElem? hl2
    simp only [pcF] at this
    exact(List.mem_replicate.1 this).2
   subst this
   trivial
  ·simp [pcF] at hj
  ·simp only [pcF,List.length_map];exact hh.ho
  ·simp only [pcF,List.length_replicate];exact hh.hi
theorem Sys.whole {f:Hs→Pc} (hf: ∀(n:Nat) (h:Hs),hs[n]? =some h→PcAt ls T n (f h)):qmM N ls T (hs.map f):=by
 refine⟨s.tab,by rw [List.length_map];exact s.len,fun n p hp=>?_⟩
 rw [List.getElem?_map] at hp
 cases q:hs[n]? with
 | none=>rw [q] at hp;cases hp
 | some h=>rw [q] at hp;cases hp;exact hf n h q
theorem Sys.links {f:Hs→Pc} (hf: ∀(n:Nat) (h:Hs),hs[n]? =some h→PcAt ls T n (f h)) {k:Nat} (hk:k < ls.length):
  ∃(a b o j:Nat) (p q:Hs) (e:Int) (l:List (Int × Int)) (ov:List Int) (iv:List (Int × Int)),LkF ls (hs.map f) k a b o j (f p) (f q)∧hs[a]? =some p∧hs[b]? =some q∧c.E[k]? =some e∧c.L[k]? =some l∧p.out[o]? =some ov∧q.inn[j]? =some iv∧Lnk e l ov iv:=by
 obtain⟨a,b,o,j,p,q,e1,e2,e3,e4,e5,e6⟩:=s.ends hk
 obtain⟨e',l',ov,iv,q1,q2,q3,q4,q5⟩:=s.lnk k a b o j p q e1 e2 e3 e4 e5
 have io:=qbf (s:=0) qdp e4
 have ij:=qbf (s:=0) qcH e5
 have ha:=hf a p e2
 have hb:=hf b q e3
 exact⟨a,b,o,j,p,q,e',l',ov,iv,⟨e1,by rw [List.getElem?_map,e2];rfl,by rw [List.getElem?_map,e3];rfl,ha.1,hb.1,by rw [io,Nat.zero_add],by rw [ha.2.2.2.1];exact qab e4,by rw [ij,Nat.zero_add],by rw [hb.2.2.2.2];exact qab e5,e4,e5,ha.2.1,hb.2.1⟩,e2,e3,q1,q2,q3,q4,q5⟩
theorem Sys.bS {f:Hs→Pc} (hf: ∀h,(f h).state=h.state):bldS (hs.map f)=c.S:=by
 refine List.ext_getElem? fun n=>?_
 rw [bldS,List.map_map,List.getElem?_map]
 have h1:=s.len
 have h2:=s.sl
 cases q:hs[n]? with
 | none=>
   have:=List.getElem?_eq_none_iff.1 q
   rw [List.getElem?_eq_none (by omega)]
   rfl
 | some h=>rw [(s.hst n h q).hS];simp [hf]
theorem Sys.bE {f:Hs→Pc} (hf: ∀(n:Nat) (h:Hs),hs[n]? =some h→PcAt ls T n (f h)) (h2: ∀h,(f h).sent=h.out.map fun l=>(l.length:Int)):bldE ls (hs.map f)=c.E:=by
 refine List.ext_getElem? fun n=>?_
 rw [bldE,List.getElem?_map]
 have h3:=s.el
 rcases Nat.lt_or_ge n ls.length with hn | hn
 ·obtain⟨a,b,o,j,p,q,e,l,ov,iv,hk,e2,e3,q1,q2,q3,q4,q5⟩:=s.links hf hn
  rw [List.getElem?_range hn,q1]
  have:=hk.E
  have hx:(f p).sent[o]? =some (ov.length:Int):=by rw [h2,List.getElem?_map,q3];rfl
  rw [List.getElem?_eq_getElem hk.hol] at hx
  show some _=_
  rw [this,Option.some.inj hx,q5.he]
 ·rw [List.getElem?_eq_none (by rw [List.length_range];exact hn),List.getElem?_eq_none (by omega)]
  rfl
theorem Sys.bLt (ht:t≤2147483647):bldL ls (hs.map pcL) true=c.L∧ ∀i,i < ls.length→LkOk ls (hs.map pcL) i:=by
 have hf: ∀(n:Nat) (h:Hs),hs[n]? =some h→PcAt ls T n (pcL h):=fun n h hn=>(s.pc ht hn).1
 have key: ∀n,n < ls.length→ ∃l,c.L[n]? =some l∧lkM ls (hs.map pcL) true n=l∧LkOk ls (hs.map pcL) n:=fun n hn=>by
  obtain⟨a,b,o,j,p,q,e,l,ov,iv,hk,e2,e3,q1,q2,q3,q4,q5⟩:=s.links hf hn
  have lo:o < (pcL p).out.length:=qab q3
  have hS:=hk.S lo
  have hG:=hk.G
  have eS:(pcL p).out[o]=ov:=by have:(pcL p).out[o]? =some ov:=q3;rw [List.getElem?_eq_getElem lo] at this;exact Option.some.inj this
  have eG:(pcL q).inn[j]'hk.hjl=iv:=by have:(pcL q).inn[j]? =some iv:=q4;rw [List.getElem?_eq_getElem hk.hjl] at this;exact Option.some.inj this
  rw [eS] at hS
  rw [eG] at hG
  have hE:=hk.E
  have hx:(pcL p).sent[o]? =some (ov.length:Int):=by simp only [pcL];rw [List.getElem?_map,q3];rfl
  rw [List.getElem?_eq_getElem hk.hol] at hx
  refine⟨l,q2,?_,?_,?_,?_⟩
  ·rw [lkM,if_pos rfl,hS,hG,q5.hl]
  ·rw [hk.O,hk.P];exact lo
  ·rw [hS,hE,Option.some.inj hx]
  ·rw [hS,hG];exact q5.mix
 refine⟨List.ext_getElem? fun n=>?_,fun i hi=>(key i hi).choose_spec.2.2⟩
 rw [bldL,List.getElem?_map]
 have h3:=s.ll
 rcases Nat.lt_or_ge n ls.length with hn | hn
 ·obtain⟨l,q1,q2,_⟩:=key n hn
  rw [List.getElem?_range hn,q1]
  exact congrArg some q2
 ·rw [List.getElem?_eq_none (by rw [List.length_range];exact hn),List.getElem?_eq_none (by omega)]
  rfl
theorem Sys.bLf (ht:t≤2147483647):bldL ls (hs.map pcF) false=List.replicate ls.length []:=by
 have hf: ∀(n:Nat) (h:Hs),hs[n]? =some h→PcAt ls T n (pcF h):=fun n h hn=>(s.pc ht hn).2
 refine List.ext_getElem? fun n=>?_
 rw [bldL,List.getElem?_map]
 rcases Nat.lt_or_ge n ls.length with hn | hn
 ·obtain⟨a,b,o,j,p,q,e,l,ov,iv,hk,e2,e3,q1,q2,q3,q4,q5⟩:=s.links hf hn
  rw [List.getElem?_range hn,List.getElem?_replicate,if_pos hn]
  refine congrArg some ?_
  rw [lkM,if_neg (by decide),hk.G]
  simp only [pcF,List.getElem_replicate]
 ·rw [List.getElem?_eq_none (by rw [List.length_range];exact hn),List.getElem?_eq_none (by rw [List.length_replicate];exact hn)]
  rfl
theorem Sys.build (ht:t≤2147483647):bldB N ls T (hs.map pcL) true=((c.S,c.L,c.E),0):=by
 have hf: ∀(n:Nat) (h:Hs),hs[n]? =some h→PcAt ls T n (pcL h):=fun n h hn=>(s.pc ht hn).1
 obtain⟨b1,b2⟩:=s.bLt ht
 have b3:=s.bS (f:=pcL) fun _=>rfl
 have b4:=s.bE hf fun _=>rfl
 rw [bldB,qa6,if_pos rfl,b1,b3,b4]
 exact⟨s.whole hf,fun _=>b2,by rw [b1,b3,b4];exact s.conf⟩
theorem Sys.bare (ht:t≤2147483647):bldB N ls T (hs.map pcF) false=((c.S,List.replicate ls.length [],c.E),0):=by
 have hf: ∀(n:Nat) (h:Hs),hs[n]? =some h→PcAt ls T n (pcF h):=fun n h hn=>(s.pc ht hn).2
 have b1:=s.bLf ht
 have b3:=s.bS (f:=pcF) fun _=>rfl
 have b4:=s.bE hf fun _=>rfl
 rw [bldB,qa6,if_pos rfl,b1,b3,b4]
 refine⟨s.whole hf,fun q=>absurd q (by decide),?_⟩
 rw [b1,b3,b4]
 obtain⟨c1,c2,c3,c4,c5,c6⟩:=s.conf
 refine⟨c1,c2,by simp,c4,c5,fun k l hl e he=>?_⟩
 have:l= []:=(List.mem_replicate.1 (List.mem_of_getElem? hl)).2
 subst this
 have lk:k < c.L.length:=by have:=qab hl;rw [List.length_replicate] at this;have:=s.ll;omega
 have:=c6 k _ (List.getElem?_eq_getElem lk) e he
 exact⟨trivial,this.2⟩
end
end Go.Proofs.NO
