/- Facts that the proofs of this claim lean on. -/
import Derived.Test.YtfhhdgkhajkapaaGreatNnF
import Derived.Test.YtfhhdgkhajkapaaGreatNMh
import Derived.Test.YtfhhdgkhajkapaaGreatNzTk
set_option linter.unusedSimpArgs false
set_option linter.unusedVariables false
/- All hosts together, and the plain system: what stands between them, and a pick of both. No program in sight. -/
namespace Go.Proofs.NO
open Go Go.Idl Go.Proofs Go.GP
structure Lnk (e:Int) (l:List (Int × Int)) (out:List Int) (inn:List (Int × Int)):Prop where
 he:e=out.length
 hl:l=qbK out inn
 hr:RisP 0 inn
 hi: ∀m∈inn,m∈allM 0 out
 ho: ∀x∈out,0≤x∧x≤3
 h5:out.length≤500
theorem qj5 {m:Int × Int} {out:List Int} (h:m∈allM 0 out):1≤m.1∧m.1≤out.length:=by
 have:=qeH.1 h
 omega
theorem qmP {out:List Int} {x:Int} {m:Int × Int} (h:m∈allM 0 out):m∈allM 0 (out++ [x]):=by
 rw [qeV];exact List.mem_append_left _ h
theorem Lnk.send {e:Int} {l:List (Int × Int)} {out:List Int} {inn:List (Int × Int)} (h:Lnk e l out inn) {x:Int} (hx:0≤x∧x≤3) (h9: ¬500≤e):Lnk (e+1) (l++ [(e+1,x)]) (out++ [x]) inn:=by
 obtain⟨he,hl,hr,hi,ho,h5⟩:=h
 refine⟨by rw [List.length_append,he];rfl,?_,hr,fun m hm=>qmP (hi m hm),fun y hy=>?_,by rw [List.length_append];simp;omega⟩
 ·rw [qmu,if_neg,hl,he]
  intro q
  obtain⟨m,hm,e2⟩:=List.mem_map.1 q
  have:=qj5 (hi m hm)
  omega
 ·rcases List.mem_append.1 hy with q | q
  ·exact ho y q
  ·rw [List.mem_singleton.1 q];exact hx
def OutI (ls:List (Int × Int)) (n:Int) (inn:Nat→List (Int × Int)) (L:List (List (Int × Int))) (E:List Int) (out:List (List Int)):Prop:=
 ∀(k o:Nat),(outs n 0 ls)[o]? =some (k:Int)→ ∃e l ov,E[k]? =some e∧L[k]? =some l∧out[o]? =some ov∧Lnk e l ov (inn k)
theorem qki {n:Int} {ls:List (Int × Int)} {o o':Nat} {k:Int} (h:(outs n 0 ls)[o]? =some k) (h':(outs n 0 ls)[o']? =some k):o=o':=by
 have a:=qbf (s:=0) qdp h
 have b:=qbf (s:=0) qdp h'
 omega
theorem pick_sim {ls:List (Int × Int)} {n:Nat} {inn:Nat→List (Int × Int)}: ∀ {sends:List (Int × Int)} {L:List (List (Int × Int))} {E:List Int} {out:List (List Int)} {sent:List (Int × Int × Int)},
  OutI ls n inn L E out→(∀y∈sends,((n:Int),y.1)∈ls∧0≤y.2∧y.2≤3)→
  (pkC ls n sends L E=none∧pkGo ls n sends out sent=none)∨ ∃L' E' out' sent',pkC ls n sends L E=some (L',E')∧pkGo ls n sends out sent=some (out',sent')∧OutI ls n inn L' E' out'∧
   L'.length=L.length∧E'.length=E.length∧out'.length=out.length∧ ∀k:Nat,(k:Int) ∉ outs (n:Int) 0 ls→L'[k]? =L[k]? ∧E'[k]? =E[k]?
 | [],L,E,out,sent,h,_=> .inr ⟨L,E,out,sent,rfl,rfl,h,rfl,rfl,rfl,fun _ _=>⟨rfl,rfl⟩⟩
 | s::r,L,E,out,sent,h,hs=>by
   obtain⟨hm,hx⟩:=hs s (by simp)
   obtain⟨k,hkl,hk1,hk2⟩:=qcG (qbn (s:=0).2 hm)
   rw [Nat.zero_add] at hk1
   have hko:(k:Int)∈outs (n:Int) 0 ls:=by have:=qdA (i:=0) hkl (by rw [hk2]);rwa [Nat.zero_add] at this
   obtain⟨q,hq1,hq2,hq3⟩:=qfg hko
   obtain⟨e,l,ov,hE,hL,hO,hk⟩:=h k q hq3
   have lk:k < L.length:=by have:=qab hL;exact this
   have lE:k < E.length:=by have:=qab hE;exact this
   have lq:q < out.length:=by have:=qab hO;exact this
   rw [pkC,pkGo,hk1,Int.toNat_natCast,hq1,Int.toNat_natCast,hE,hL,hO,Option.getD_some,Option.getD_some,Option.getD_some]
   by_cases h9:500≤e
   ·have h9':500≤ov.length:=by have:=hk.he;omega
    rw [if_pos h9,if_pos h9']
    exact .inl ⟨rfl,rfl⟩
   ·have h9': ¬500≤ov.length:=by have:=hk.he;omega
    rw [if_neg h9,if_neg h9']
    have hI:OutI ls n inn (L.set k (l++ [(e+1,s.2)])) (E.set k (e+1)) (out.set q (ov++ [s.2])):=by
     intro k' o' ho'
     by_cases hkk:k'=k
     ·subst hkk
      have hoq:=qki ho' hq3
      subst hoq
      refine⟨e+1,l++ [(e+1,s.2)],ov++ [s.2],?_,?_,?_,hk.send hx h9⟩<;>rw [List.getElem?_set_self (by omega)]
     ·have hoq:o'≠q:=fun e2=>by
       subst e2
       rw [hq3] at ho'
       have h3:(k':Int)=k:=by simpa using ho'.symm
       exact hkk (by omega)
      obtain⟨e',l',ov',a1,a2,a3,a4⟩:=h k' o' ho'
      exact⟨e',l',ov',by rw [List.getElem?_set_ne (fun q=>hkk q.symm)];exact a1,by rw [List.getElem?_set_ne (fun q=>hkk q.symm)];exact a2,by rw [List.getElem?_set_ne (fun q=>hoq q.symm)];exact a3,a4⟩
    rcases pick_sim (sends:=r) (sent:=sent++ [((k:Int),((ov.length:Int))+1,s.2)]) hI (fun y hy=>hs y (List.mem_cons_of_mem _ hy)) with ⟨b1,b2⟩ | ⟨L',E',out',sent',b1,b2,b3,b4,b5,b6,b7⟩
    ·exact .inl ⟨b1,b2⟩
    ·refine .inr ⟨L',E',out',sent',b1,b2,b3,by rw [b4,List.length_set],by rw [b5,List.length_set],by rw [b6,List.length_set],fun k' hk'=>?_⟩
     obtain⟨c1,c2⟩:=b7 k' hk'
     have hne: ¬k=k':=fun e=>hk' (e ▸hko)
     rw [c1,c2,List.getElem?_set_ne hne,List.getElem?_set_ne hne]
     exact⟨rfl,rfl⟩
def sIns (l:List (Int × Int)) (m:Int × Int):List (Int × Int):=
 match l with
 | []=> [m]
 | x::r=>if x.1 < m.1 then x::sIns r m else m::x::r
theorem qlD (m:Int × Int): ∀l:List (Int × Int),l.take (posL m.1 l)++m::l.drop (posL m.1 l)=sIns l m
 | []=>rfl
 | x::r=>by
   unfold posL sIns
   split
   ·rw [←qlD m r];rfl
   ·rfl
theorem qcY {m x:Int × Int}: ∀ {l},x∈sIns l m↔x=m∨x∈l
 | []=>by simp [sIns]
 | y::r=>by
   unfold sIns
   split
   ·rw [List.mem_cons,qcY,List.mem_cons];constructor<;>(rintro(h | h | h)<;>simp [h])
   ·simp
theorem qlE {m:Int × Int}: ∀ {l},l.Pairwise (fun a b:Int × Int=>a.1 < b.1)→(∀x∈l,x.1≠m.1)→(sIns l m).Pairwise (fun a b=>a.1 < b.1)
 | [],_,_=>by simp [sIns]
 | y::r,h,hm=>by
   have hy:=hm y (by simp)
   rw [List.pairwise_cons] at h
   unfold sIns
   split
   ·rename_i c
    rw [List.pairwise_cons]
    refine⟨fun x hx=>?_,qlE h.2 fun x hx=>hm x (by simp [hx])⟩
    rcases qcY.1 hx with rfl | hx
    ·exact c
    ·exact h.1 x hx
   ·rw [List.pairwise_cons]
    refine⟨fun x hx=>?_,List.pairwise_cons.2 h⟩
    rcases List.mem_cons.1 hx with rfl | hx
    ·omega
    ·have:=h.1 x hx;omega
theorem qkk {q:Int}: ∀ {l:List (Int × Int)},l.Pairwise (fun a b:Int × Int=>a.1 < b.1)→((∃y,l[posL q l]? =some y∧y.1=q)↔ ∃x∈l,x.1=q)
 | [],_=>by simp [posL]
 | x::r,h=>by
   rw [List.pairwise_cons] at h
   unfold posL
   split
   ·rename_i c
    rw [List.getElem?_cons_succ,qkk h.2]
    constructor
    ·rintro⟨y,h1,h2⟩;exact⟨y,by simp [h1],h2⟩
    ·rintro⟨y,h1,h2⟩
     rcases List.mem_cons.1 h1 with rfl | h1
     ·omega
     ·exact⟨y,h1,h2⟩
   ·rename_i c
    constructor
    ·rintro⟨y,h1,h2⟩
     simp at h1
     exact⟨x,by simp,by rw [h1];exact h2⟩
    ·rintro⟨y,h1,h2⟩
     refine⟨x,by simp,?_⟩
     rcases List.mem_cons.1 h1 with rfl | h1
     ·exact h2
     ·have:=h.1 y h1;omega
theorem qhm: ∀ {last:Int} {l:List (Int × Int)},RisP last l→l.Pairwise (fun a b=>a.1 < b.1)∧ ∀x∈l,last < x.1
 | _, [],_=>by simp
 | last,x::r,h=>by
   obtain⟨h1,h2⟩:=qhm h.2
   have h0:=h.1.1
   exact⟨List.pairwise_cons.2 ⟨h2,h1⟩,fun y hy=>by
    rcases List.mem_cons.1 hy with rfl | hy
    ·exact h0
    ·have:=h2 y hy;omega⟩
theorem qir {f a d:Int} {m:Nat}: ∀ {l:List (Int × Int × Int)},(∀t∈l,StaP m t.2.2)→StaP m d→StaP m (qbC f a d l)
 | [],_,h=>h
 | t::r,h,hd=>by
   unfold qbC
   split
   ·exact h t (by simp)
   ·exact qir (fun x hx=>h x (by simp [hx])) hd
theorem ris_all: ∀ {last:Int} {l:List (Int × Int)},RisP last l→ ∀x∈l,x.1≤500∧0≤x.2∧x.2≤3
 | _, [],_,x,hx=>by simp at hx
 | last,y::r,h,x,hx=>by
   rcases List.mem_cons.1 hx with rfl | hx
   ·exact h.1.2
   ·exact ris_all h.2 x hx
theorem ris_of {last:Int}: ∀ {l:List (Int × Int)},l.Pairwise (fun a b:Int × Int=>a.1 < b.1)→(∀x∈l,last < x.1)→(∀x∈l,x.1≤500∧0≤x.2∧x.2≤3)→RisP last l
 | [],_,_,_=>trivial
 | x::r,hp,h1,h2=>by
   rw [List.pairwise_cons] at hp
   exact⟨⟨h1 x (by simp),h2 x (by simp)⟩,ris_of hp.2 hp.1 fun y hy=>h2 y (by simp [hy])⟩
theorem qpx {l:List (Int × Int)} {m:Int × Int} (h:RisP 0 l) (hn: ∀y∈l,y.1≠m.1) (h1:1≤m.1∧m.1≤500) (h2:0≤m.2∧m.2 < 4):RisP 0 (sIns l m):=by
 obtain⟨hp,hl⟩:=qhm h
 refine ris_of (qlE hp hn) (fun x hx=>?_) fun x hx=>?_
 ·rcases qcY.1 hx with rfl | hx
  ·omega
  ·exact hl x hx
 ·rcases qcY.1 hx with rfl | hx
  ·omega
  ·exact ris_all h x hx
theorem filt_one: ∀ {l:List (Int × Int)} {i:Nat} {m:Int × Int},(qaO l).Nodup→l[i]? =some m→l.filter (fun x=>decide (x.1≠m.1))=l.take i++l.drop (i+1)
 | [],i,m,_,h=>by simp at h
 | x::r,0,m,hn,h=>by
   have e:x=m:=by simpa using h
   subst e
   rw [qaO,List.map_cons,List.nodup_cons] at hn
   rw [List.filter_cons_of_neg (by simp)]
   simp only [List.take_zero,List.nil_append,Nat.zero_add,List.drop_succ_cons,List.drop_zero]
   exact List.filter_eq_self.2 fun y hy=>by simpa using fun q=>hn.1 (List.mem_map.2 ⟨y,hy,q⟩)
 | x::r,i+1,m,hn,h=>by
   have e:r[i]? =some m:=by simpa using h
   rw [qaO,List.map_cons,List.nodup_cons] at hn
   have hx:x.1≠m.1:=fun q=>hn.1 (List.mem_map.2 ⟨m,List.mem_of_getElem? e,q.symm⟩)
   rw [List.filter_cons_of_pos (by simpa using hx),filt_one hn.2 e]
   rfl
theorem qov (out:List Int) (inn:List (Int × Int)) (m:Int × Int):qbK out (sIns inn m)=(qbK out inn).filter fun x=>decide (x.1≠m.1):=by
 unfold qbK
 rw [List.filter_filter]
 refine List.filter_congr fun x _=>?_
 have:x.1∈qaO (sIns inn m)↔x.1=m.1∨x.1∈qaO inn:=by
  simp only [qaO,List.mem_map,qcY]
  constructor
  ·rintro⟨y,rfl | hy,e⟩
   ·exact .inl e.symm
   ·exact .inr ⟨y,hy,e⟩
  ·rintro(e | ⟨y,hy,e⟩)
   ·exact⟨m, .inl rfl,e.symm⟩
   ·exact⟨y, .inr hy,e⟩
 rw [show decide (x.1 ∉ qaO (sIns inn m))=decide (¬(x.1=m.1∨x.1∈qaO inn)) from decide_eq_decide.2 (not_congr this)]
 by_cases h1:x.1=m.1
 ·rw [decide_eq_false (by simp [h1]),decide_eq_false (by simp [h1]),Bool.false_and]
 ·by_cases h2:x.1∈qaO inn<;>simp [h1,h2]
theorem qpw (out:List Int) (inn:List (Int × Int)):(qaO (qbK out inn)).Nodup:=by
 have h:=qdz out 0
 unfold qbK qaO at *
 rw [List.Nodup,List.pairwise_map] at *
 exact h.filter _
theorem qko {out:List Int} {inn:List (Int × Int)} {m:Int × Int} (h:m∈qbK out inn):m∈allM 0 out∧m.1 ∉ qaO inn:=by
 unfold qbK at h
 rw [List.mem_filter] at h
 exact⟨h.1,by simpa using h.2⟩
theorem Lnk.msg {e:Int} {l:List (Int × Int)} {out:List Int} {inn:List (Int × Int)} (h:Lnk e l out inn) {m:Int × Int} (hm:m∈l):(1≤m.1∧m.1≤500)∧(0≤m.2∧m.2 < 4)∧ ∀y∈inn,y.1≠m.1:=by
 obtain⟨he,hl,hr,hi,ho,h5⟩:=h
 subst hl
 obtain⟨a,b⟩:=qko hm
 have h1:=qj5 a
 have h2:=(qeH.1 a).2.2
 have h3:=ho _ (List.mem_of_getElem? h2)
 exact⟨by omega,by omega,fun y hy q=>b (List.mem_map.2 ⟨y,hy,q⟩)⟩
theorem Lnk.take {e:Int} {l:List (Int × Int)} {out:List Int} {inn:List (Int × Int)} (h:Lnk e l out inn) {i:Nat} {m:Int × Int} (hm:l[i]? =some m):Lnk e (l.take i++l.drop (i+1)) out (sIns inn m):=by
 obtain⟨m1,m2,m3⟩:=h.msg (List.mem_of_getElem? hm)
 obtain⟨he,hl,hr,hi,ho,h5⟩:=h
 subst hl
 refine⟨he,?_,qpx hr m3 m1 m2,fun x hx=>?_,ho,h5⟩
 ·rw [qov,filt_one (qpw _ _) hm]
 ·rcases qcY.1 hx with rfl | hx
  ·exact(qko (List.mem_of_getElem? hm)).1
  ·exact hi x hx
structure Hst (ls:List (Int × Int)) (T:List Nd) (t:Int) (S:List Int) (n:Nat) (h:Hs):Prop where
 hn:h.node=n
 hS:S[n]? =some h.state
 h0:0≤h.state
 hs: ∀x,T[n]? =some x→h.state < x.states.length
 hi:h.inn.length=(ins n 0 ls).length
 ho:h.out.length=(outs n 0 ls).length
 t0:0≤h.steps
 t1:h.steps≤t
structure Sys (N:Int) (ls:List (Int × Int)) (T:List Nd) (t:Int) (c:Cf) (hs:List Hs):Prop where
 tab:TabP N ls T
 len:(hs.length:Int)=N
 sl:(c.S.length:Int)=N
 ll:c.L.length=ls.length
 el:c.E.length=ls.length
 hst: ∀(n:Nat) (h:Hs),hs[n]? =some h→Hst ls T t c.S n h
 lnk: ∀(k a b o j:Nat) (ha hb:Hs),ls[k]? =some ((a:Int),(b:Int))→hs[a]? =some ha→hs[b]? =some hb→(outs a 0 ls)[o]? =some (k:Int)→(ins b 0 ls)[j]? =some (k:Int)→
  ∃e l ov iv,c.E[k]? =some e∧c.L[k]? =some l∧ha.out[o]? =some ov∧hb.inn[j]? =some iv∧Lnk e l ov iv
theorem Sys.ends {N:Int} {ls:List (Int × Int)} {T:List Nd} {t:Int} {c:Cf} {hs:List Hs} (s:Sys N ls T t c hs) {k:Nat} (hk:k < ls.length):
  ∃(a b o j:Nat) (ha hb:Hs),ls[k]? =some ((a:Int),(b:Int))∧hs[a]? =some ha∧hs[b]? =some hb∧(outs a 0 ls)[o]? =some (k:Int)∧(ins b 0 ls)[j]? =some (k:Int)∧a≠b:=by
 obtain⟨⟨h1,h2,h3,h4,h5⟩, -, -⟩:=s.tab
 have hx:=List.getElem?_eq_getElem hk
 obtain⟨⟨x1,x2⟩,⟨x3,x4⟩,x5, -, -⟩:=h4 k _ hx
 obtain⟨a,ea⟩:=Int.eq_ofNat_of_zero_le x1
 obtain⟨b,eb⟩:=Int.eq_ofNat_of_zero_le x3
 have hlen:=s.len
 have m1:=qdA (i:=0) hk ea
 have m2:=qll (i:=0) hk eb
 rw [Nat.zero_add] at m1 m2
 obtain⟨o,o1,o2,o3⟩:=qfg m1
 obtain⟨j,j1,j2,j3⟩:=qfg m2
 exact⟨a,b,o,j,_,_,by rw [hx];exact congrArg some (Prod.ext ea eb),List.getElem?_eq_getElem (by omega),List.getElem?_eq_getElem (by omega),o3,j3,fun q=>x5 (by rw [ea,eb,q])⟩
theorem qpt {n:Int} {ls:List (Int × Int)} {o k:Nat} (h:(outs n 0 ls)[o]? =some (k:Int)): ∃b,ls[k]? =some (n,b):=by
 obtain⟨i,e,hi,hx⟩:=qej (List.mem_of_getElem? h)
 obtain rfl:k=i:=by omega
 exact⟨ls[k].2,by rw [List.getElem?_eq_getElem hi,←hx]⟩
theorem qpb {n:Int} {ls:List (Int × Int)} {o o':Nat} {k:Int} (h:(ins n 0 ls)[o]? =some k) (h':(ins n 0 ls)[o']? =some k):o=o':=by
 have a:=qbf (s:=0) qcH h
 have b:=qbf (s:=0) qcH h'
 omega
theorem Hst.node {N:Int} {ls:List (Int × Int)} {T:List Nd} {t:Int} {c:Cf} {hs:List Hs} (s:Sys N ls T t c hs) {n:Nat} {h:Hs} (hh:Hst ls T t c.S n h) (hn:hs[n]? =some h):
  ∃x st,T[n]? =some x∧x.states[h.state.toNat]? =some st∧MayP ls n x.states st:=by
 have l1:=qab hn
 have hT:=s.tab.2.1
 have hl:=s.len
 have hx:=List.getElem?_eq_getElem (show n < T.length by omega)
 have h1:=hh.hs _ hx
 have h0:=hh.h0
 have hq:=List.getElem?_eq_getElem (show h.state.toNat < T[n].states.length by omega)
 exact⟨_,_,hx,hq,(s.tab.2.2 n _ hx).2.2.2 _ _ hq⟩
def qgW (ls:List (Int × Int)) (hs:List Hs) (k:Nat):List (Int × Int):=
 match ls[k]? with
 | none=> []
 | some (_,b)=>match hs[b.toNat]? with
   | none=> []
   | some hb=>(hb.inn[(qax (k:Int) 0 (ins b 0 ls)).toNat]?).getD []
theorem Sys.out {N:Int} {ls:List (Int × Int)} {T:List Nd} {t:Int} {c:Cf} {hs:List Hs} (s:Sys N ls T t c hs) {n:Nat} {h:Hs} (hn:hs[n]? =some h):OutI ls n (qgW ls hs) c.L c.E h.out:=by
 intro k o ho
 obtain⟨b',hb'⟩:=qpt ho
 obtain⟨a,b,o',j,ha,hb,h1,h2,h3,h4,h5,h6⟩:=s.ends (qab hb')
 rw [hb'] at h1
 have e1:(n:Int)=a:=by have:=congrArg (fun z=>(z.getD (0,0)).1) h1;simpa using this
 have e2:b'=b:=by have:=congrArg (fun z=>(z.getD (0,0)).2) h1;simpa using this
 have e3:a=n:=by omega
 subst e3
 subst e2
 rw [hn] at h2
 cases h2
 obtain⟨e,l,ov,iv,q1,q2,q3,q4,q5⟩:=s.lnk k _ b o j _ hb hb' hn h3 ho h5
 refine⟨e,l,ov,q1,q2,q3,?_⟩
 have:qgW ls hs k=iv:=by
  unfold qgW
  rw [hb']
  simp only [Int.toNat_natCast,h3]
  rw [qbf (s:=0) qcH h5,Nat.zero_add,Int.toNat_natCast,q4];rfl
 rw [this];exact q5
theorem Sys.pick {N:Int} {ls:List (Int × Int)} {T:List Nd} {t:Int} {c:Cf} {hs:List Hs} (s:Sys N ls T t c hs) {n:Nat} {h:Hs} (hn:hs[n]? =some h) {x:Nd} {st:St} (hx:T[n]? =some x) (hq:x.states[h.state.toNat]? =some st) (k:Int):
  (∃e:Int,e≠0∧(qfX ls st c n k)=(zCf0,e)∧(qfY ls st h k).2.2=e)∨ ∃c' h' sent,qfX ls st c n k=(c',0)∧qfY ls st h k=(h',sent,0)∧Sys N ls T (t+1) c' (hs.set n h')∧c'.S[n]? =some h'.state:=by
 have hh:=s.hst n h hn
 have may:=(s.tab.2.2 n _ hx).2.2.2 _ _ hq
 unfold qfX qfY
 by_cases h1:st.mode=1
 rotate_left
 ·rw [if_pos h1,if_pos h1];exact .inl ⟨8,by decide,rfl,rfl⟩
 have n1: ¬(st.mode≠1):=fun q=>q h1
 rw [if_neg n1,if_neg n1]
 by_cases h2:k < 0
 ·rw [if_pos h2,if_pos h2];exact .inl ⟨3,by decide,rfl,rfl⟩
 rw [if_neg h2,if_neg h2]
 cases h3:st.picks[k.toNat]? with
 | none=>exact .inl ⟨3,by decide,rfl,rfl⟩
 | some p=>
   obtain⟨p1,p2,p3⟩:=may.2.2.1.2.2 _ p h3
   have hsnd: ∀y∈p.2,((n:Int),y.1)∈ls∧0≤y.2∧y.2≤3:=fun y hy=>by
    obtain⟨q,hq⟩:=List.mem_iff_getElem?.1 hy
    obtain⟨a1,a2,a3⟩:=p3 q y hq
    exact⟨a1,a2,by omega⟩
   simp only
   rw [hh.hn]
   rcases pick_sim (sent:= []) (s.out hn) hsnd with ⟨b1,b2⟩ | ⟨L',E',out',sent',b1,b2,b3,b4,b5,b6,b7⟩
   ·rw [b1,b2];exact .inl ⟨2,by decide,rfl,rfl⟩
   ·rw [b1,b2]
    have lS:n < c.S.length:=qab hh.hS
    have lh:n < hs.length:=qab hn
    refine .inr ⟨_,_,_,rfl,rfl,⟨s.tab,by rw [List.length_set];exact s.len,by simp only [List.length_set];exact s.sl,by rw [b4];exact s.ll,by rw [b5];exact s.el,fun m g hg=>?_,fun k a b o j ha hb hk hha hhb ho hj=>?_⟩,?_⟩
    ·by_cases hmn:n=m
     ·subst hmn
      rw [List.getElem?_set_self lh] at hg
      cases hg
      exact⟨rfl,by rw [List.getElem?_set_self lS],p1.1,fun x' hx'=>by rw [hx] at hx';cases hx';exact p1.2,hh.hi,by simp only;rw [b6];exact hh.ho,by have:=hh.t0;simp only;omega,by have:=hh.t1;simp only;omega⟩
     ·rw [List.getElem?_set_ne hmn] at hg
      have g0:=s.hst m g hg
      exact⟨g0.hn,by rw [List.getElem?_set_ne hmn];exact g0.hS,g0.h0,g0.hs,g0.hi,g0.ho,g0.t0,by have:=g0.t1;omega⟩
    ·have hbb: ∃hb0,hs[b]? =some hb0∧hb.inn=hb0.inn:=by
      by_cases hbn:n=b
      ·subst hbn
       rw [List.getElem?_set_self lh] at hhb
       cases hhb
       exact⟨h,hn,rfl⟩
      ·rw [List.getElem?_set_ne hbn] at hhb
       exact⟨hb,hhb,rfl⟩
     obtain⟨hb0,hhb0,ebi⟩:=hbb
     by_cases han:n=a
     ·subst han
      rw [List.getElem?_set_self lh] at hha
      cases hha
      obtain⟨e,l,ov,iv,q1,q2,q3,q4,q5⟩:=s.lnk k n b o j h hb0 hk hn hhb0 ho hj
      obtain⟨e',l',ov',c1,c2,c3,c4⟩:=b3 k o ho
      refine⟨e',l',ov',iv,c1,c2,c3,by rw [ebi];exact q4,?_⟩
      have:qgW ls hs k=iv:=by
       unfold qgW
       rw [hk]
       simp only [Int.toNat_natCast,hhb0]
       rw [qbf (s:=0) qcH hj,Nat.zero_add,Int.toNat_natCast,q4];rfl
      rw [←this];exact c4
     ·rw [List.getElem?_set_ne han] at hha
      obtain⟨e,l,ov,iv,q1,q2,q3,q4,q5⟩:=s.lnk k a b o j ha hb0 hk hha hhb0 ho hj
      have hno:(k:Int) ∉ outs (n:Int) 0 ls:=fun q=>by
       obtain⟨i,e1,hi,e2⟩:=qej q
       obtain rfl:k=i:=by omega
       rw [List.getElem?_eq_getElem hi] at hk
       have:=congrArg (fun z=>(z.getD (0,0)).1) hk
       simp at this
       omega
      obtain⟨d1,d2⟩:=b7 k hno
      exact⟨e,l,ov,iv,by rw [d2];exact q1,by rw [d1];exact q2,q3,by rw [ebi];exact q4,q5⟩
    ·simp only
     rw [List.getElem?_set_self lS]
end Go.Proofs.NO
