/- Facts that the proofs of this claim lean on. -/
import Derived.Test.YtfhhdgkhajkapaaGreatNzP4
import Derived.Test.YtfhhdgkhajkapaaGreatNMd
import Derived.Test.YtfhhdgkhajkapaaGreatGPm
import Derived.Test.YtfhhdgkhajkapaaGreatGN
import Derived.Test.YtfhhdgkhajkapaaGreatNzCl
import Derived.Test.YtfhhdgkhajkapaaGreatIdRn
import Derived.Test.YtfhhdgkhajkapaaGreatIdNl
import Derived.Test.YtfhhdgkhajkapaaGreatRows
set_option linter.unusedSimpArgs false
set_option linter.unusedVariables false
/- The first host of a node, the program's and the document's. -/
namespace Go.Proofs.NO
open Go Go.Idl Go.Proofs Go.GP Go.Proofs.Tryz
set_option maxHeartbeats 20000000
set_option maxRecDepth 100000
def eZ (_:Unit):List PV:= [.sc (.slice none 0 0)]
theorem qid {P:Program} {f:FuncId} {args:List IV} {R:List (Nat × IBlk)} {x y:IV} (h: ∀M v,VRel M x v→VRel M y v) (p:PCall P f args R x):PCall P f args R y:=by
 intro hh hR M vs hM hl hr
 refine Calls.mono (p hh hR M vs hM hl hr) fun e w' ⟨M',nx',l',r,h1,h2,h3,h4,h5,h6,h7⟩=>⟨M',nx',l', .ret y,h1,h2,h3,?_,rfl,h6,h7⟩
 subst h5
 obtain⟨v,e1,e2⟩:=h4
 exact⟨v,e1,h _ _ e2⟩
theorem qfZ {w:World} {own:Nat→Prop} {Z:List Unit} {sz:Nat} {v:Value} (h:PRel w own (.imm 1 (pr eZ Z)) v):PRel w own (.imm 1 (List.replicate Z.length [.imm sz []])) v:=by
 generalize hr:pr eZ Z=rows at h
 have hg: ∀i,i < Z.length→rows[i]? =some [.sc (.slice none 0 0)]:=fun i hi=>by rw [←hr];simp [pr,eZ,hi]
 have hl:rows.length=Z.length:=by rw [←hr];simp [pr]
 cases h with
 | imm sz rows a cap c o f h1 h2 h3 h4 h5 h6=>
   have e:rows.length=(List.replicate Z.length [PV.imm sz []]).length:=by simp [hl]
   have key: ∀(i:Nat) (row:List PV),(List.replicate Z.length [PV.imm sz []])[i]? =some row→i < Z.length∧row= [PV.imm sz []]:=fun i row hi=>by
    obtain⟨h7,h8⟩:=List.getElem?_eq_some_iff.1 hi
    exact⟨by simpa using h7,by simpa using h8.symm⟩
   rw [e]
   refine .imm 1 _ a cap c o f (by simp;omega) h2 (fun q=>h3 (by rw [e];exact q)) (fun i row hi=>by rw [(key i row hi).2];rfl) (fun i row j x hi hj=>?_) fun i row j x hi hj=>?_
   ·obtain⟨k1,rfl⟩:=key i row hi
    cases j with
    | zero=>exact h5 i _ 0 _ (hg i k1) rfl
    | succ j=>simp at hj
   ·obtain⟨k1,rfl⟩:=key i row hi
    cases j with
    | zero=>
      simp at hj
      subst hj
      have:=h6 i _ 0 _ (hg i k1) rfl
      generalize f i 0=u at this
      cases this
      exact .imm _ [] none 0 0 0 (fun _ _=> .slice none 0 0) (Nat.le_refl _) (Nat.zero_le _) (fun q=>by simp at q) (fun i row q=>by simp at q) (fun i row j x q=>by simp at q) fun i row j x q=>by simp at q
    | succ j=>simp at hj
theorem qp7 {M:Mem} {v:Value} {a b c:Int} {Z1 Z2:List Unit} (h:VRel M (.agg [sci .i64 a,sci .i64 b,sci .i64 c, .p (.imm 1 (pr eZ Z1)), .p (.imm 1 (pr eZ Z2))]) v):
  VRel M (lHs ⟨a,b,c,List.replicate Z1.length [],List.replicate Z2.length []⟩) v:=by
 have e1:pr eMs (List.replicate Z1.length [])=List.replicate Z1.length [.imm 2 []]:=by simp [pr,eMs]
 have e2:pr eLs (List.replicate Z2.length [])=List.replicate Z2.length [.imm 1 []]:=by simp [pr,eLs]
 cases h with
 | agg cs vs hl h1 r=>
   show VRel M (.agg [sci .i64 a,sci .i64 b,sci .i64 c, .p (.imm 1 (pr eMs (List.replicate Z1.length []))), .p (.imm 1 (pr eLs (List.replicate Z2.length [])))]) _
   rw [e1,e2]
   refine .agg _ vs (by simpa using hl) h1 fun i x w hx hw=>?_
   match i,hx with
   | 0,hx=>exact r 0 x w hx hw
   | 1,hx=>exact r 1 x w hx hw
   | 2,hx=>exact r 2 x w hx hw
   | 3,hx=>
     simp at hx
     subst hx
     have:=r 3 _ w rfl hw
     cases this with
     | p _ _ h=>exact .p _ _ (qfZ h)
   | 4,hx=>
     simp at hx
     subst hx
     have:=r 4 _ w rfl hw
     cases this with
     | p _ _ h=>exact .p _ _ (qfZ h)
   | i+5,hx=>simp at hx
theorem qgY (n:Int): ∀(ls:List (Int × Int)) (i:Nat),(ins n i ls).length≤ls.length
 | [],i=>by simp [ins]
 | x::r,i=>by
   have:=qgY n r (i+1)
   unfold ins
   split<;>simp<;>omega
theorem qjz (n:Int): ∀(ls:List (Int × Int)) (i:Nat),(outs n i ls).length≤ls.length
 | [],i=>by simp [outs]
 | x::r,i=>by
   have:=qjz n r (i+1)
   unfold outs
   split<;>simp<;>omega
theorem qlJ (n:Nat):pr eZ (List.replicate n ())=List.replicate n [.sc (.slice none 0 0)]:=by simp [pr,eZ]
theorem qpu (N:Int) (ls:List (Int × Int)) (T:List Nd) (ff:Bool) (room:Nat) (acts:List (Int × Int × Int)) (n:Int) (m:Nat) (x:Nd) (hl:ls.length≤1000000) (hm:(m:Int)=if n < 0∨N≤n then 0 else n) (hx:T[m]? =some x):
  Pure prog 20 [lApp ⟨N,ls,T,ff,room,acts⟩,sci .i64 n] (lHs ⟨m,x.start,0,List.replicate (ins m 0 ls).length [],List.replicate (outs m 0 ls).length []⟩):=by
 obtain⟨ln,ex⟩:=List.getElem?_eq_some_iff.1 hx
 obtain⟨st,ss⟩:=x
 have hz:Pure prog 20 [lApp ⟨N,ls,T,ff,room,acts⟩,sci .i64 n] (.agg [sci .i64 m,sci .i64 st,sci .i64 0, .p (.imm 1 (pr eZ (List.replicate (ins m 0 ls).length ()))), .p (.imm 1 (pr eZ (List.replicate (outs m 0 ls).length ())))]):=by
  rw [qlJ,qlJ]
  have hi1:=qgY m ls 0
  have ho1:=qjz m ls 0
  refine pcall0 200 (fn:=f20) func20 rfl (by simp [ntmps20]) zB zB fun hs=>?_
  by_cases c1:n < 0
  ·rw [if_pos (.inl c1)] at hm
   obtain rfl:m=0:=by omega
   rw [Int.natCast_zero] at hi1 ho1
   (try simp (maxSteps:=2000000) (disch:=omega) only [go_sem,simprocAttr,zD,zE,c1])
   (refine zM [1,2,4,45] ?_;refine zI [none,none,none,none,none,none,none,none,none,none,some [0,1,2,3,4,5,6,13,14,15],none,some [0,1,2,3,4,5,6,13,14,15,16,17,18],none,none,none,some [0,1,2,3,4,5,6,11,12],none,some [0,1,2,3,4,5,6,11,12],none,some []] ?_)
   (try simp (maxSteps:=2000000) (disch:=omega) only [go_sem,simprocAttr,zD,zE,ex,eNd])
   (refine zF ?_;refine callA_of (qc3 N 0 ls hl) zB ?_)
   (try simp (maxSteps:=2000000) (disch:=omega) only [go_sem,simprocAttr,zD,zE,Int.natCast_zero])
   (refine zF ?_;refine callA_of (qdM N 0 ls hl) zB ?_)
   (try simp (maxSteps:=2000000) (disch:=omega) only [go_sem,simprocAttr,zD,zE,qfd])
  ·by_cases c2:N≤n
   ·rw [if_pos (.inr c2)] at hm
    obtain rfl:m=0:=by omega
    rw [Int.natCast_zero] at hi1 ho1
    (try simp (maxSteps:=2000000) (disch:=omega) only [go_sem,simprocAttr,zD,zE,c1,c2])
    (refine zM [1,2,4,45] ?_;refine zI [none,none,none,none,none,none,none,none,none,none,some [0,1,2,3,4,5,6,13,14,15],none,some [0,1,2,3,4,5,6,13,14,15,16,17,18],none,none,none,some [0,1,2,3,4,5,6,11,12],none,some [0,1,2,3,4,5,6,11,12],none,some []] ?_)
    (try simp (maxSteps:=2000000) (disch:=omega) only [go_sem,simprocAttr,zD,zE,ex,eNd])
    (refine zF ?_;refine callA_of (qc3 N 0 ls hl) zB ?_)
    (try simp (maxSteps:=2000000) (disch:=omega) only [go_sem,simprocAttr,zD,zE,Int.natCast_zero])
    (refine zF ?_;refine callA_of (qdM N 0 ls hl) zB ?_)
    (try simp (maxSteps:=2000000) (disch:=omega) only [go_sem,simprocAttr,zD,zE,qfd])
   ·rw [if_neg (by omega)] at hm
    subst hm
    (try simp (maxSteps:=2000000) (disch:=omega) only [go_sem,simprocAttr,zD,zE,c1,c2])
    (refine zM [1,2,4,45] ?_;refine zI [none,none,none,none,none,none,none,none,none,none,some [0,1,2,3,4,5,6,13,14,15],none,some [0,1,2,3,4,5,6,13,14,15,16,17,18],none,none,none,some [0,1,2,3,4,5,6,11,12],none,some [0,1,2,3,4,5,6,11,12],none,some []] ?_)
    (try simp (maxSteps:=2000000) (disch:=omega) only [go_sem,simprocAttr,zD,zE,ex,eNd])
    (refine zF ?_;refine callA_of (qc3 N m ls hl) zB ?_)
    try refine zO ?_
    (refine zF ?_;refine callA_of (qdM N m ls hl) zB ?_)
    (try simp (maxSteps:=2000000) (disch:=omega) only [go_sem,simprocAttr,zD,zE,qfd])
 have:=qid (fun M v=>qp7) hz
 simpa using this
abbrev lAp (N:Int) (ls:List (Int × Int)) (T:List Nd) (ff:Bool):IV:= .agg [sci .i64 N,lII ls, .p (.imm 2 (pr eNd T)),scb ff]
end Go.Proofs.NO
/- A node's links, in order. No program in sight. -/
namespace Go.Proofs.NO
open Go Go.Idl Go.Proofs Go.GP Go.Proofs.Tryz
theorem qnF {n:Int}: ∀ {ls:List (Int × Int)} {s:Nat} {x:Int},x∈outs n s ls→ ∃i,x=((s+i:Nat):Int)∧ ∃h:i < ls.length,ls[i].1=n
 | [],s,x,h=>by simp [outs] at h
 | y::r,s,x,h=>by
   unfold outs at h
   have key:x∈outs n (s+1) r→ ∃i,x=((s+i:Nat):Int)∧ ∃h:i < (y::r).length,(y::r)[i].1=n:=fun q=>by
    obtain⟨i,e,hi,hn⟩:=qnF q
    exact⟨i+1,by rw [e];congr 1;omega,by simpa using hi,by simpa using hn⟩
   split at h
   ·rename_i hy
    rcases List.mem_cons.1 h with rfl | q
    ·exact⟨0,rfl,by simp,hy⟩
    ·exact key q
   ·exact key h
theorem qiX {n:Int}: ∀ {ls:List (Int × Int)} {s:Nat},(outs n s ls).Pairwise (· < ·)
 | [],s=>by simp [outs]
 | y::r,s=>by
   unfold outs
   split
   ·rw [List.pairwise_cons]
    refine⟨fun z hz=>?_,qiX⟩
    obtain⟨i,e,_⟩:=qnF hz
    omega
   ·exact qiX
structure Lnk (e:Int) (l:List (Int × Int)) (out:List Int) (inn:List (Int × Int)):Prop where
 he:e=out.length
 hl:l=restL out inn
 hr:RisP 0 inn
 hi: ∀m∈inn,m∈allM 0 out
 ho: ∀x∈out,0≤x∧x≤3
 h5:out.length≤500
def sIns (l:List (Int × Int)) (m:Int × Int):List (Int × Int):=
 match l with
 | []=> [m]
 | x::r=>if x.1 < m.1 then x::sIns r m else m::x::r
theorem qnL (m:Int × Int): ∀l:List (Int × Int),l.take (posL m.1 l)++m::l.drop (posL m.1 l)=sIns l m
 | []=>rfl
 | x::r=>by
   unfold posL sIns
   split
   ·rw [←qnL m r];rfl
   ·rfl
theorem qff {m x:Int × Int}: ∀ {l},x∈sIns l m↔x=m∨x∈l
 | []=>by simp [sIns]
 | y::r=>by
   unfold sIns
   split
   ·rw [List.mem_cons,qff,List.mem_cons];constructor<;>(rintro(h | h | h)<;>simp [h])
   ·simp
theorem up_pw {l:List (Int × Int)}:UpH l↔l.Pairwise (fun a b=>a.1 < b.1):=by
 rw [List.pairwise_iff_getElem]
 exact⟨fun h i j hi hj hij=>h i j hj hij,fun h a b hb hab=>h a b (by omega) hb hab⟩
theorem qnM {m:Int × Int}: ∀ {l},l.Pairwise (fun a b:Int × Int=>a.1 < b.1)→(∀x∈l,x.1≠m.1)→(sIns l m).Pairwise (fun a b=>a.1 < b.1)
 | [],_,_=>by simp [sIns]
 | y::r,h,hm=>by
   have hy:=hm y (by simp)
   rw [List.pairwise_cons] at h
   unfold sIns
   split
   ·rename_i c
    rw [List.pairwise_cons]
    refine⟨fun x hx=>?_,qnM h.2 fun x hx=>hm x (by simp [hx])⟩
    rcases qff.1 hx with rfl | hx
    ·exact c
    ·exact h.1 x hx
   ·rw [List.pairwise_cons]
    refine⟨fun x hx=>?_,List.pairwise_cons.2 h⟩
    rcases List.mem_cons.1 hx with rfl | hx
    ·omega
    ·have:=h.1 x hx;omega
theorem qlI {q:Int}: ∀ {l:List (Int × Int)},l.Pairwise (fun a b:Int × Int=>a.1 < b.1)→((∃y,l[posL q l]? =some y∧y.1=q)↔ ∃x∈l,x.1=q)
 | [],_=>by simp [posL]
 | x::r,h=>by
   rw [List.pairwise_cons] at h
   unfold posL
   split
   ·rename_i c
    rw [List.getElem?_cons_succ,qlI h.2]
    constructor
    ·rintro⟨y,h1,h2⟩;exact⟨y,by simp [h1],h2⟩
    ·rintro⟨y,h1,h2⟩
     rcases List.mem_cons.1 h1 with rfl | h1
     ·omega
     ·exact⟨y,h1,h2⟩
   ·rename_i c
    constructor
    ·rintro⟨y,h1,h2⟩
     simp at h1
     exact⟨x,by simp,by rw [h1];exact h2⟩
    ·rintro⟨y,h1,h2⟩
     refine⟨x,by simp,?_⟩
     rcases List.mem_cons.1 h1 with rfl | h1
     ·exact h2
     ·have:=h.1 y h1;omega
theorem qih: ∀ {last:Int} {l:List (Int × Int)},RisP last l→l.Pairwise (fun a b=>a.1 < b.1)∧ ∀x∈l,last < x.1
 | _, [],_=>by simp
 | last,x::r,h=>by
   obtain⟨h1,h2⟩:=qih h.2
   have h0:=h.1.1
   exact⟨List.pairwise_cons.2 ⟨h2,h1⟩,fun y hy=>by
    rcases List.mem_cons.1 hy with rfl | hy
    ·exact h0
    ·have:=h2 y hy;omega⟩
theorem qjR {f a d:Int} {m:Nat}: ∀ {l:List (Int × Int × Int)},(∀t∈l,StaP m t.2.2)→StaP m d→StaP m (qbX f a d l)
 | [],_,h=>h
 | t::r,h,hd=>by
   unfold qbX
   split
   ·exact h t (by simp)
   ·exact qjR (fun x hx=>h x (by simp [hx])) hd
theorem qgt: ∀ {last:Int} {l:List (Int × Int)},RisP last l→last≤500→(l.length:Int)≤500 - last
 | _, [],_,h=>by simp;omega
 | last,x::r,h,h2=>by
   have h3:=qgt h.2 h.1.2.1
   have:=h.1.1
   simp only [List.length_cons];omega
theorem ris_all: ∀ {last:Int} {l:List (Int × Int)},RisP last l→ ∀x∈l,x.1≤500∧0≤x.2∧x.2≤3
 | _, [],_,x,hx=>by simp at hx
 | last,y::r,h,x,hx=>by
   rcases List.mem_cons.1 hx with rfl | hx
   ·exact h.1.2
   ·exact ris_all h.2 x hx
theorem ris_of {last:Int}: ∀ {l:List (Int × Int)},l.Pairwise (fun a b:Int × Int=>a.1 < b.1)→(∀x∈l,last < x.1)→(∀x∈l,x.1≤500∧0≤x.2∧x.2≤3)→RisP last l
 | [],_,_,_=>trivial
 | x::r,hp,h1,h2=>by
   rw [List.pairwise_cons] at hp
   exact⟨⟨h1 x (by simp),h2 x (by simp)⟩,ris_of hp.2 hp.1 fun y hy=>h2 y (by simp [hy])⟩
theorem ris_ins {l:List (Int × Int)} {m:Int × Int} (h:RisP 0 l) (hn: ∀y∈l,y.1≠m.1) (h1:1≤m.1∧m.1≤500) (h2:0≤m.2∧m.2 < 4):RisP 0 (sIns l m):=by
 obtain⟨hp,hl⟩:=qih h
 refine ris_of (qnM hp hn) (fun x hx=>?_) fun x hx=>?_
 ·rcases qff.1 hx with rfl | hx
  ·omega
  ·exact hl x hx
 ·rcases qff.1 hx with rfl | hx
  ·omega
  ·exact ris_all h x hx
structure Hst (ls:List (Int × Int)) (T:List Nd) (t:Int) (S:List Int) (n:Nat) (h:Hs):Prop where
 hn:h.node=n
 hS:S[n]? =some h.state
 h0:0≤h.state
 hs: ∀x,T[n]? =some x→h.state < x.states.length
 hi:h.inn.length=(ins n 0 ls).length
 ho:h.out.length=(outs n 0 ls).length
 t0:0≤h.steps
 t1:h.steps≤t
structure Sys (N:Int) (ls:List (Int × Int)) (T:List Nd) (t:Int) (c:Cf) (hs:List Hs):Prop where
 tab:TabP N ls T
 len:(hs.length:Int)=N
 sl:(c.S.length:Int)=N
 ll:c.L.length=ls.length
 el:c.E.length=ls.length
 hst: ∀(n:Nat) (h:Hs),hs[n]? =some h→Hst ls T t c.S n h
 lnk: ∀(k a b o j:Nat) (ha hb:Hs),ls[k]? =some ((a:Int),(b:Int))→hs[a]? =some ha→hs[b]? =some hb→(outs a 0 ls)[o]? =some (k:Int)→(ins b 0 ls)[j]? =some (k:Int)→
  ∃e l ov iv,c.E[k]? =some e∧c.L[k]? =some l∧ha.out[o]? =some ov∧hb.inn[j]? =some iv∧Lnk e l ov iv
theorem qlH: ∀(N:Nat) (l:List Nat),l.Nodup→(∀n∈l,n < N)→l.length≤N
 | 0,l,_,h=>by
   cases l with
   | nil=>simp
   | cons a l=>exact absurd (h a (by simp)) (by omega)
 | N+1,l,hd,h=>by
   have h2:=qlH N (l.filter (· != N)) (hd.filter _) fun n hn=>by
    obtain⟨h1,h2⟩:=List.mem_filter.1 hn
    have:=h n h1
    have h3:n≠N:=by simpa using h2
    omega
   have h3:l.length≤(l.filter (· != N)).length+1:=by
    clear h h2
    induction l with
    | nil=>simp
    | cons a l ih=>
      obtain⟨h1,h2⟩:=List.nodup_cons.1 hd
      have:=ih h2
      by_cases e:a=N
      ·subst e
       have h4:l.filter (· != a)=l:=List.filter_eq_self.2 fun x hx=>by
        have:x≠a:=fun q=>h1 (q ▸hx)
        simpa using this
       simp [h4]
      ·rw [List.filter_cons_of_pos (by simpa using e)]
       simp only [List.length_cons];omega
   omega
theorem qgG {N:Int} {ls:List (Int × Int)} (h: ∀(i:Nat) (x:Int × Int),ls[i]? =some x→qep N ls i x):ls.Nodup:=by
 rw [List.nodup_iff_pairwise_ne,List.pairwise_iff_getElem]
 intro i j hi hj hij e
 have h1:=(h i _ (List.getElem?_eq_getElem hi)).2.2.2.1
 have h2:=(h j _ (List.getElem?_eq_getElem hj)).2.2.2.1
 rw [e,h2] at h1
 omega
theorem qjp (n:Int): ∀(ls:List (Int × Int)) (i:Nat),(ins n i ls).length=(ls.filter (fun x=>x.2==n)).length
 | [],i=>by simp [ins]
 | x::r,i=>by
   have:=qjp n r (i+1)
   unfold ins
   by_cases e:x.2=n
   ·rw [if_pos e,List.filter_cons_of_pos (by simpa using e)];simp [this]
   ·rw [if_neg e,List.filter_cons_of_neg (by simpa using e)];exact this
theorem qh8 (n:Int): ∀(ls:List (Int × Int)) (i:Nat),(outs n i ls).length=(ls.filter (fun x=>x.1==n)).length
 | [],i=>by simp [outs]
 | x::r,i=>by
   have:=qh8 n r (i+1)
   unfold outs
   by_cases e:x.1=n
   ·rw [if_pos e,List.filter_cons_of_pos (by simpa using e)];simp [this]
   ·rw [if_neg e,List.filter_cons_of_neg (by simpa using e)];exact this
theorem few {N n:Int} {l:List Int} (hn:0≤n∧n < N) (h6:N≤6) (hd:l.Nodup) (h: ∀x∈l,0≤x∧x < N∧x≠n):l.length≤5:=by
 have h1:((n::l).map Int.toNat).Nodup:=by
  rw [List.nodup_iff_pairwise_ne,List.pairwise_map]
  have h2:(n::l).Nodup:=List.nodup_cons.2 ⟨fun q=>(h n q).2.2 rfl,hd⟩
  have h3: ∀x∈n::l,0≤x:=fun x hx=>by
   rcases List.mem_cons.1 hx with rfl | hx
   ·exact hn.1
   ·exact(h x hx).1
  rw [List.nodup_iff_pairwise_ne] at h2
  refine List.Pairwise.imp_of_mem (fun {a b} ha hb hab e=>hab ?_) h2
  have:=h3 a ha
  have:=h3 b hb
  omega
 have h2:=qlH N.toNat _ h1 fun x hx=>by
  obtain⟨y,hy,rfl⟩:=List.mem_map.1 hx
  rcases List.mem_cons.1 hy with rfl | hy
  ·omega
  ·have:=h y hy;omega
 simp only [List.length_map,List.length_cons] at h2
 omega
theorem qqE {N:Int} {ls:List (Int × Int)} (h:qcV N ls) {n:Int} (hn:0≤n∧n < N):(ins n 0 ls).length≤5:=by
 obtain⟨_,h6,_,hl,_⟩:=h
 have hd:=qgG hl
 rw [qjp,←List.length_map (f:=Prod.fst)]
 have hm: ∀x∈ls.filter (fun x=>x.2==n),x.2=n∧x∈ls:=fun x hx=>by
  obtain⟨h1,h2⟩:=List.mem_filter.1 hx
  exact⟨by simpa using h2,h1⟩
 refine few hn h6 ?_ fun x hx=>?_
 ·rw [List.nodup_iff_pairwise_ne,List.pairwise_map]
  have h2:=hd.filter (fun x=>x.2==n)
  refine List.Pairwise.imp_of_mem (fun {a b} ha hb hab e=>hab (Prod.ext e ?_)) h2
  rw [(hm a ha).1,(hm b hb).1]
 ·obtain⟨y,hy,rfl⟩:=List.mem_map.1 hx
  obtain⟨e,hy2⟩:=hm y hy
  obtain⟨q,hq⟩:=List.mem_iff_getElem?.1 hy2
  have:=hl q y hq
  exact⟨this.1.1,this.1.2,fun c=>this.2.2.1 (by rw [c,e])⟩
theorem qpS {N:Int} {ls:List (Int × Int)} (h:qcV N ls) {n:Int} (hn:0≤n∧n < N):(outs n 0 ls).length≤5:=by
 obtain⟨_,h6,_,hl,_⟩:=h
 have hd:=qgG hl
 rw [qh8,←List.length_map (f:=Prod.snd)]
 have hm: ∀x∈ls.filter (fun x=>x.1==n),x.1=n∧x∈ls:=fun x hx=>by
  obtain⟨h1,h2⟩:=List.mem_filter.1 hx
  exact⟨by simpa using h2,h1⟩
 refine few hn h6 ?_ fun x hx=>?_
 ·rw [List.nodup_iff_pairwise_ne,List.pairwise_map]
  have h2:=hd.filter (fun x=>x.1==n)
  refine List.Pairwise.imp_of_mem (fun {a b} ha hb hab e=>hab (Prod.ext ?_ e)) h2
  rw [(hm a ha).1,(hm b hb).1]
 ·obtain⟨y,hy,rfl⟩:=List.mem_map.1 hx
  obtain⟨e,hy2⟩:=hm y hy
  obtain⟨q,hq⟩:=List.mem_iff_getElem?.1 hy2
  have:=hl q y hq
  exact⟨this.2.1.1,this.2.1.2,fun c=>this.2.2.1 (by rw [c,e])⟩
def pcL (h:Hs):Pc:=⟨h.node,h.state,h.steps,h.out.map fun l=>(l.length:Int),h.inn,h.out⟩
def pcF (h:Hs):Pc:=⟨h.node,h.state,h.steps,h.out.map fun l=>(l.length:Int),List.replicate h.inn.length [], []⟩
section
variable {N:Int} {ls:List (Int × Int)} {T:List Nd} {t:Int} {c:Cf} {hs:List Hs} (s:Sys N ls T t c hs)
include s
end
end Go.Proofs.NO
/- What is built where all hosts tell at once. No program in sight. -/
namespace Go.Proofs.NO
open Go Go.Idl Go.Proofs Go.GP Go.Proofs.Tryz
section
variable {N:Int} {ls:List (Int × Int)} {T:List Nd} {t:Int} {c:Cf} {hs:List Hs} (s:Sys N ls T t c hs)
include s
end
end Go.Proofs.NO
/- A step of the plain system, and what a host does of it. -/
namespace Go.Proofs.NO
open Go Go.Idl Go.Proofs Go.GP Go.Proofs.Tryz
section
variable {N:Int} {ls:List (Int × Int)} {T:List Nd} {t:Int} {c:Cf} {hs:List Hs} (s:Sys N ls T t c hs)
include s
end
end Go.Proofs.NO
/- What a host tells. -/
namespace Go.Proofs.NO
open Go Go.Idl Go.Proofs Go.Proofs.Tryz
set_option maxHeartbeats 20000000
set_option maxRecDepth 100000
theorem qmQ (h:Hs) (hg:gHs h):Pure prog 84 [lHs h,scb true] (lPc ⟨h.node,h.state,h.steps,h.out.map fun l=>(l.length:Int),h.inn,h.out⟩):=by
 have hg2:=hg
 obtain⟨node,state,steps,inn,out⟩:=h
 obtain⟨h2,h3,h4,h5⟩:=hg
 simp only at h2 h3 h4 h5
 refine pcall0 200 (fn:=f84) func84 rfl (by simp [ntmps84]) zB zB fun hs=>?_
 try refine zW ?_
 (refine zG ?_;refine callA_of (qfj ⟨node,state,steps,inn,out⟩) zB ?_)
 try refine zW ?_
 (refine qkX 200 ?_;refine zW ?_;refine callA_of (qi7 ⟨node,state,steps,inn,out⟩ hg2) zB ?_)
 try refine zO ?_
 refine walk_ownB 2 0 3 1 trivial rfl rfl rfl (.inr rfl) ?_
 simp only [List.set_cons_zero,List.set_cons_succ,Nat.reduceAdd]
 obtain⟨X,hX⟩: ∃X:List Int,X=out.map fun l=>(l.length:Int):=⟨_,rfl⟩
 have hXl:X.length=out.length:=by rw [hX,List.length_map]
 have hXs: ∀(i:Nat) (li:i < out.length),X.take (i+1)=X.take i++ [(out[i].length:Int)]:=fun i li=>by
  rw [hX,List.take_succ_eq_append_getElem (by rw [List.length_map];exact li),List.getElem_map]
 rw [←hX]
 clear hX
 (refine walk_trim [4,5,20,21,22,75] trivial zL ?_;((try refine zW ?_);(try with_reducible exact True.intro)))
 refine qac 200 200 (fun i:Nat × Nat=>i.1≤out.length)
  (fun i=>⟨35, [(4, .ptr 1 0 0 0),(5, .ptr 2 0 0 0),(20,lLs out),(21,sci .i64 out.length),(22,sci .i64 i.1)], [],4, [(3, .arr 1 i.2 (ir eI (X.take i.1))),(2, .arr 6 0 [[sci .i64 node,sci .i64 state,sci .i64 steps, .ref 3 i.2 0 i.1,lMs inn,lLs out]]),(1, .arr 6 0 [[sci .i64 0,sci .i64 0,sci .i64 0,nil0,nil0,nil0]]),(0, .arr 5 0 [[sci .i64 node,sci .i64 state,sci .i64 steps,lMs inn,lLs out]])]⟩) (fun i=>out.length - i.1) (0,0) [] ?_ ?_ ?_
 ·simp
 ·constructor<;>(try simp (maxSteps:=2000000) (disch:=omega) only [go_sem,simprocAttr,zD,zE,Int.natCast_zero,List.take_of_length_le,List.append_assoc,List.take_zero])
 ·rintro⟨i,g⟩ hi
  simp only at hi
  try refine zW ?_
  by_cases li:i < out.length
  ·have hl5:=h5 out[i] (List.getElem_mem li)
   have hpt:X.take (i+1)=X.take i++ [(out[i].length:Int)]:=hXs i li
   have htt:(X.take i).length=i:=by rw [List.length_take];omega
   have hti:(X.take i).take i=X.take i:=by rw [List.take_take,Nat.min_self]
   (try simp (maxSteps:=2000000) (disch:=omega) only [go_sem,simprocAttr,zD,zE,eLs,htt])
   refine⟨(i+1,g+1), [],by first | assumption | omega,?_,?_⟩
   ·(try simp only []);omega
   ·constructor<;>(try simp (maxSteps:=2000000) (disch:=omega) only [go_sem,simprocAttr,zD,zE,hpt,hti,ir_snoc,List.map_cons,List.map_nil,List.append_assoc])
  ·obtain rfl:i=out.length:=by omega
   have e:X.take out.length=X:=List.take_of_length_le (by omega)
   (try simp (maxSteps:=2000000) (disch:=omega) only [go_sem,simprocAttr,zD,zE,e])
end Go.Proofs.NO
/- A piece without logs; where a step is done. -/
namespace Go.Proofs.NO
open Go Go.Idl Go.Proofs Go.GP Go.Proofs.Tryz
set_option maxHeartbeats 20000000
set_option maxRecDepth 100000
theorem qrc {M:Mem} {v:Value} {a b c:Int} {S:List Int} {Z:List Unit} (h:VRel M (.agg [sci .i64 a,sci .i64 b,sci .i64 c,lI S, .p (.imm 1 (pr eZ Z)),nil0]) v):
  VRel M (lPc ⟨a,b,c,S,List.replicate Z.length [], []⟩) v:=by
 have e1:pr eMs (List.replicate Z.length [])=List.replicate Z.length [.imm 2 []]:=by simp [pr,eMs]
 cases h with
 | agg cs vs hl h1 r=>
   show VRel M (.agg [sci .i64 a,sci .i64 b,sci .i64 c,lI S, .p (.imm 1 (pr eMs (List.replicate Z.length []))), .p (.imm 1 (pr eLs []))]) _
   rw [e1]
   refine .agg _ vs (by simpa using hl) h1 fun i x w hx hw=>?_
   match i,hx with
   | 0,hx=>exact r 0 x w hx hw
   | 1,hx=>exact r 1 x w hx hw
   | 2,hx=>exact r 2 x w hx hw
   | 3,hx=>exact r 3 x w hx hw
   | 4,hx=>
     simp at hx
     subst hx
     have:=r 4 _ w rfl hw
     cases this with
     | p _ _ h=>exact .p _ _ (qfZ h)
   | 5,hx=>
     simp at hx
     subst hx
     have:=r 5 _ w rfl hw
     cases this with
     | p _ _ h=>
       cases h
       exact .p _ _ (.imm _ [] none 0 0 0 (fun _ _=> .slice none 0 0) (Nat.le_refl _) (Nat.zero_le _) (fun q=>by simp at q) (fun i row q=>by simp at q) (fun i row j x q=>by simp at q) fun i row j x q=>by simp at q)
   | i+6,hx=>simp at hx
theorem qmP (h:Hs) (hg:gHs h):Pure prog 84 [lHs h,scb false] (lPc (pcF h)):=by
 have hz:=qmO h hg
 rw [←qlJ] at hz
 have:=qid (fun M v=>qrc) hz
 rw [List.length_replicate] at this
 exact this
end Go.Proofs.NO
/- How the laws' arguments read. -/
namespace Go.Proofs.YtfhhdgkhajkapaaGreat
open Go Go.Idl Go.Proofs Go.Proofs.Tryz
open Go.ChangeShapes Go.WideShapes Go.ChangeAt Go.RowKit
set_option maxRecDepth 100000
theorem Tryz.own:ownKnob Tryz.prog.godebug=none:=by kernel_rfl
theorem Tryz.laidOut:laidOutB prog=true:=by kernel_rfl
theorem one {t:TypeId} {x:PV} (h:tag prog t=some false):ArgIs prog t [x] (.p x):=qrq h
theorem agg {t:TypeId} {xs:List PV} (h:tag prog t=some true):ArgIs prog t xs (.agg (xs.map .p)):=qrp h
theorem qaY:qak prog 3 (fun n:Int=> [.sc (.int .i64 n)]) fun _=>True:=qak.map (qpP Tryz.underlying3) id (fun _=>rfl) fun _ _=>trivial
theorem qrU:qak prog 4 (fun b:Bool=> [.sc (.bool b)]) fun _=>True:=qoP Tryz.underlying4
theorem qgq:qak prog 37 (fun l:List Int=> [.imm 1 (pr eI l)]) fun _=>True:=
 qak.map (qa8 (by_:=8) Tryz.underlying37 (by kernel_rfl) (by decide) (by kernel_rfl) qaY) id (fun _=>rfl) fun _ _=>trivial
theorem qrV:qak prog 68 eII fun _=>True:=qak.map (qpQ (sz:=1) Tryz.underlying68 (by kernel_rfl) (by kernel_rfl) qaY) id (fun _=>rfl) fun _ _=>trivial
theorem qqU:qak prog 22 (fun l:List (Int × Int)=> [.imm 2 (pr eII l)]) fun _=>True:=
 qak.map (qa8 (by_:=16) Tryz.underlying22 (by kernel_rfl) (by decide) (by kernel_rfl) qrV) id (fun _=>rfl) fun _ _=>trivial
theorem qqT:qak prog 24 (fun a:Int × List (Int × Int)=> [.sc (.int .i64 a.1)]++ [.imm 2 (pr eII a.2)]) fun _=>True:=
 qak.map (qa7 (fs:= [_,_]) Tryz.underlying24 (by kernel_rfl) (qao rfl rfl qaY (qbl rfl rfl qqU))) id (fun _=>rfl) fun _ _=>trivial
theorem qr0:qak prog 213 eII fun _=>True:=
 qak.map (qa7 (fs:= [_,_]) Tryz.underlying213 (by kernel_rfl) (qao rfl rfl qaY (qbl rfl rfl qaY))) id (fun _=>rfl) fun _ _=>trivial
theorem qqY:qak prog 206 (fun l:List (Int × Int)=> [.imm 2 (pr eII l)]) fun _=>True:=
 qak.map (qa8 (by_:=16) Tryz.underlying206 (by kernel_rfl) (by decide) (by kernel_rfl) qr0) id (fun _=>rfl) fun _ _=>trivial
theorem qrZ:qak prog 208 NO.ePk fun _=>True:=
 qak.map (qa7 (fs:= [_,_]) Tryz.underlying208 (by kernel_rfl) (qao rfl rfl qaY (qbl rfl rfl qqY))) id (fun _=>rfl) fun _ _=>trivial
theorem qqW:qak prog 297 (fun l:List (Int × List (Int × Int))=> [.imm 2 (pr NO.ePk l)]) fun _=>True:=
 qak.map (qa8 (by_:=32) Tryz.underlying297 (by kernel_rfl) (by decide) (by kernel_rfl) qrZ) id (fun _=>rfl) fun _ _=>trivial
theorem qr1:qak prog 306 NO.eIII fun _=>True:=
 qak.map (qa7 (fs:= [_,_,_]) Tryz.underlying306 (by kernel_rfl) (qao rfl rfl qaY (qao rfl rfl qaY (qbl rfl rfl qaY)))) id (fun _=>rfl) fun _ _=>trivial
theorem qq0:qak prog 298 (fun l:List (Int × Int × Int)=> [.imm 3 (pr NO.eIII l)]) fun _=>True:=
 qak.map (qa8 (by_:=24) Tryz.underlying298 (by kernel_rfl) (by decide) (by kernel_rfl) qr1) id (fun _=>rfl) fun _ _=>trivial
theorem qqZ:qak prog 300 NO.eSt fun _=>True:=
 qak.map (qa7 (fs:= [_,_,_,_]) Tryz.underlying300 (by kernel_rfl) (qao rfl rfl qaY (qao rfl rfl qgq (qao rfl rfl qqW (qbl rfl rfl qq0)))))
  (fun a=>(⟨a.1,a.2.1,a.2.2.1,a.2.2.2⟩:NO.St)) (fun _=>rfl) fun _ _=>trivial
theorem qpO:qak prog 198 (fun l:List NO.St=> [.imm 4 (pr NO.eSt l)]) fun _=>True:=
 qak.map (qa8 (by_:=80) Tryz.underlying198 (by kernel_rfl) (by decide) (by kernel_rfl) qqZ) id (fun _=>rfl) fun _ _=>trivial
theorem qrX:qak prog 200 NO.eNd fun _=>True:=
 qak.map (qa7 (fs:= [_,_]) Tryz.underlying200 (by kernel_rfl) (qao rfl rfl qaY (qbl rfl rfl qpO))) (fun a=>(⟨a.1,a.2⟩:NO.Nd)) (fun _=>rfl) fun _ _=>trivial
theorem qqV:qak prog 25 (fun l:List NO.Nd=> [.imm 2 (pr NO.eNd l)]) fun _=>True:=
 qak.map (qa8 (by_:=32) Tryz.underlying25 (by kernel_rfl) (by decide) (by kernel_rfl) qrX) id (fun _=>rfl) fun _ _=>trivial
theorem qlB:qak prog 27 (fun a:NO.Sc=> [.sc (.int .i64 a.N), .imm 2 (pr eII a.ls), .imm 2 (pr NO.eNd a.T), .sc (.bool a.fifo)]) fun _=>True:=
 qak.map (qa7 (fs:= [_,_,_]) Tryz.underlying27 (by kernel_rfl) (qao rfl rfl qqT (qao rfl rfl qqV (qbl rfl rfl qrU))))
  (fun a=>(⟨a.1.1,a.1.2,a.2.1,a.2.2,0, []⟩:NO.Sc)) (fun _=>rfl) fun _ _=>trivial
end Go.Proofs.YtfhhdgkhajkapaaGreat
/- Plain law of merging in place: ranges swapped, rotated, merged. -/
namespace Go.GN
section
variable {α:Type}
end
end Go.GN
/- The stable sort of pieces. -/
namespace Go.Proofs.NO
open Go Go.Idl Go.Proofs Go.GN Go.Proofs.Tryz
set_option maxHeartbeats 20000000
set_option maxRecDepth 100000
theorem qjL {α:Type} (lt:α→α→Bool) (P S:List α): ∀(d:Nat) (Q:List α),d < Q.length→qdm lt P.length d (P++Q++S)=P++sink lt d Q++S
 | 0,Q,_=>rfl
 | d+1,Q,h=>by
   have g1:(P++Q++S)[P.length+d+1]? =some Q[d+1]:=by
    rw [List.append_assoc,List.getElem?_append_right (by omega),show P.length+d+1 - P.length=d+1 by omega,List.getElem?_append_left h,List.getElem?_eq_getElem h]
   have g0:(P++Q++S)[P.length+d]? =some Q[d]:=by
    rw [List.append_assoc,List.getElem?_append_right (by omega),show P.length+d - P.length=d by omega,List.getElem?_append_left (by omega),List.getElem?_eq_getElem (by omega)]
   have e: ∀x y,swp (P++Q++S) (P.length+d) x y=P++swp Q d x y++S:=by
    intro x y
    unfold swp
    rw [List.append_assoc,List.set_append_right _ _ (by omega),show P.length+d+1 - P.length=d+1 by omega,List.set_append_left _ _ h,
     List.set_append_right _ _ (by omega),show P.length+d - P.length=d by omega,List.set_append_left _ _ (by rw [List.length_set];omega),←List.append_assoc]
   rw [qdm,g1,g0,sink,List.getElem?_eq_getElem h,List.getElem?_eq_getElem (show d < Q.length by omega)]
   simp only
   split
   ·rw [e,qjL lt P S d _ (by rw [qi3];omega)]
   ·rfl
theorem qlj {α:Type} (lt:α→α→Bool) (P S:List α): ∀(f d:Nat) (Q:List α),d+f≤Q.length→insA lt P.length f d (P++Q++S)=P++ins lt f d Q++S
 | 0,d,Q,_=>rfl
 | f+1,d,Q,h=>by
   rw [insA,qjL lt P S d Q (by omega),qlj lt P S f (d+1) _ (by rw [qlU];omega),ins]
theorem qpD (P Q S:List Pc) (b:Nat) (hb:P.length+Q.length=b):insA ltP P.length (b - (P.length+1)) 1 (P++Q++S)=P++qdn ltP Q++S:=by
 rcases Nat.eq_zero_or_pos Q.length with h0 | h0
 ·have:Q= []:=List.eq_nil_of_length_eq_zero h0
  subst this
  rw [show b - (P.length+1)=0 by omega];rfl
 ·rw [show b - (P.length+1)=Q.length - 1 by omega,qlj ltP P S (Q.length - 1) 1 Q (by omega)];rfl
def Up (l:List Pc):Prop:=l.Pairwise fun x y=>x.node≤y.node
def qcq (l:List Pc):List Pc:=qdn ltP l
theorem qr6 (l:List Pc):Up (qdn ltP l):=qg5 Pc.node l
theorem qp1 (l:List Pc):(qdn ltP l).Perm l:=qfh Pc.node l
theorem qd1 (l:List Pc):(qcq l).Perm l:=qp1 l
theorem qoY (l:List Pc):Up (qcq l):=qr6 l
theorem qnm (g:Nat) (l:List Pc) (h20:l.length < 20):
  PG prog 333 [.ref 0 g 0 l.length,sci .i64 (l.length:Int),cmpF] [pB g l] 0 (.tup []) [(0,pB g (qcq l))]:=by
 generalize hres:qcq l=res
 have sp:=qiR g 0 l.length l (by omega) (Nat.le_refl _) (by omega)
 have e:=qpD [] l [] l.length (by simp)
 simp only [List.nil_append,List.append_nil,List.length_nil] at e
 unfold qcq at hres
 rw [←e] at hres
 rw [hres] at sp
 refine pg_of 200 (fn:=f333) func333 rfl (by simp [ntmps333]) 1 rfl zC zC zC zC zC fun hs=>?_
 try refine zW ?_
 refine qan 200 200 (fun i:Nat=>i=0) (fun i=>⟨63, [(0, .ref 0 g 0 l.length),(1,sci .i64 (l.length:Int)),(2,cmpF),(6,sci .i64 20),(7,sci .i64 0),(8,sci .i64 20)], [],1, [(0,pB g l)]⟩) (fun i=>i) 0 rfl ?_ ?_
 ·constructor<;>((try refine zO ?_);(try with_reducible exact True.intro))
 ·rintro i rfl
  have c1: ¬(20:Int)≤(l.length:Int):=by omega
  (try simp (maxSteps:=2000000) (disch:=omega) only [go_sem,simprocAttr,zD,zE,c1])
  (refine at_g 200 ?_;refine zW ?_;refine callG_of [0] (sp) (by simp (maxSteps:=2000000) (disch:=omega) only [go_sem,simprocAttr,zD,zE,cmpF,Int.natCast_zero]) ?_)
  try refine zW ?_
  refine qan 200 200 (fun i:Nat=>i=0) (fun i=>⟨63, [(0, .ref 0 g 0 l.length),(1,sci .i64 (l.length:Int)),(2,cmpF),(6,sci .i64 20)], [],1, [(0,pB g res)]⟩) (fun i=>i) 0 rfl ?_ ?_
  ·constructor<;>((try refine zO ?_);(try with_reducible exact True.intro))
  ·rintro i rfl
   have c2: ¬(20:Int) < (l.length:Int):=by omega
   (try simp (maxSteps:=2000000) (disch:=omega) only [go_sem,simprocAttr,zD,zE,c2])
theorem qp2 (g:Nat) (l:List Pc) (h20:l.length < 20):
  PG prog 298 [.ref 0 g 0 l.length,cmpF] [pB g l] 0 (.tup []) [(0,pB g (qcq l))]:=by
 refine pg_of 200 (fn:=f298) func298 rfl (by simp [ntmps298]) 1 rfl zC zC zC zC zC fun hs=>?_
 try refine zW ?_
 (refine at_g 200 ?_;refine zW ?_;refine callG_of [0] (qnm g l h20) (by simp (disch:=omega) only [go_sem,simprocAttr,zD,zE,cmpF]) ?_;((try refine zW ?_);(try with_reducible exact True.intro)))
end Go.Proofs.NO
