/- Facts that the proofs of this claim lean on. -/
import Derived.Test.YtfhhdgkhajkapaaGreatGN
import Derived.Test.YtfhhdgkhajkapaaGreatNxDd
import Derived.Test.YtfhhdgkhajkapaaGreatNQB
import Derived.Test.YtfhhdgkhajkapaaGreatNzCl
import Derived.Test.YtfhhdgkhajkapaaGreatIdRn
import Derived.Test.YtfhhdgkhajkapaaGreatNMd
import Derived.Test.YtfhhdgkhajkapaaGreatNPJ
import Derived.Test.YtfhhdgkhajkapaaGreatNGb
import Derived.Test.YtfhhdgkhajkapaaGreatGPm
import Derived.Test.YtfhhdgkhajkapaaGreatNNa
import Derived.Test.YtfhhdgkhajkapaaGreatNNh
import Derived.Test.YtfhhdgkhajkapaaGreatNNg
set_option linter.unusedSimpArgs false
set_option linter.unusedVariables false
/- What a pick and a take count: the plain law. -/
namespace Go.Proofs.NO
open Go Go.Idl Go.Proofs Go.GP Go.Proofs.Tryz
def cnt (l:Int) (S:List (Int × Int × Int)):Nat:=S.countP (fun e=>e.1==l)
end Go.Proofs.NO
/- What a node may tell: the program's answer. -/
namespace Go.Proofs.NO
open Go Go.Idl Go.Proofs Go.Proofs.Tryz
set_option maxHeartbeats 20000000
set_option maxRecDepth 100000
def ToldPH (h:Hs):Prop:=0≤h.steps∧h.steps≤2147483647∧h.inn.length≤5∧h.out.length≤5∧(∀(j:Nat) (l:List (Int × Int)),j < h.inn.length→h.inn[j]? =some l→RisP 0 l)∧ ∀(j:Nat) (l:List Int),j < h.out.length→h.out[j]? =some l→l.length≤500∧qdh l
end Go.Proofs.NO
/- Whether a host may be. -/
namespace Go.Proofs.NO
open Go Go.Idl Go.Proofs Go.GP Go.Proofs.Tryz
set_option maxHeartbeats 20000000
set_option maxRecDepth 100000
def qdy (N:Int) (ls:List (Int × Int)) (T:List Nd) (h:Hs):Prop:=
 TabP N ls T∧0≤h.node∧h.node < N∧0≤h.state∧(∀x,T[h.node.toNat]? =some x→h.state < x.states.length)∧h.inn.length=(ins h.node 0 ls).length∧h.out.length=(outs h.node 0 ls).length∧ToldPH h
def rng (a:Nat):List Int:=(List.range a).map fun q:Nat=>(q:Int)
end Go.Proofs.NO
/- Hosts that may be: what is known of them, and what stays so. Plain law. -/
namespace Go.Proofs.NO
open Go Go.Idl Go.Proofs Go.GP Go.Proofs.Tryz
structure HF (N:Int) (ls:List (Int × Int)) (T:List Nd) (h:Hs) (n j:Nat) (nd:Nd) (st:St):Prop where
 tab:TabP N ls T
 hn:h.node=n
 hj:h.state=j
 nN:(n:Int) < N
 hx:T[n]? =some nd
 hq:nd.states[j]? =some st
 may:MayP ls n nd.states st
 inl:h.inn.length=(ins h.node 0 ls).length
 outl:h.out.length=(outs h.node 0 ls).length
 st0:0≤h.steps∧h.steps≤2147483647
 in5:h.inn.length≤5
 out5:h.out.length≤5
 ris: ∀l∈h.inn,RisP 0 l
 lets: ∀l∈h.out,l.length≤500∧qdh l
theorem HF.of {N:Int} {ls:List (Int × Int)} {T:List Nd} {h:Hs} (hH:qdy N ls T h): ∃n j nd st,HF N ls T h n j nd st:=by
 obtain⟨hTab,hn0,hnN,hs0,hsl,hil,hol,hst1,hst2,hil5,hol5,hris,hout⟩:=hH
 have hnl:h.node.toNat < T.length:=by have:=hTab.2.1;omega
 have hnd:=List.getElem?_eq_getElem hnl
 have hjl:h.state.toNat < T[h.node.toNat].states.length:=by have:=hsl _ hnd;omega
 have hst:=List.getElem?_eq_getElem hjl
 exact⟨h.node.toNat,h.state.toNat,_,_,hTab,by omega,by omega,by omega,hnd,hst,(hTab.2.2 _ _ hnd).2.2.2 _ _ hst,hil,hol,⟨hst1,hst2⟩,hil5,hol5,
  fun l hl=>by
   obtain⟨q,hq⟩:=List.mem_iff_getElem?.1 hl
   exact hris q l (List.getElem?_eq_some_iff.1 hq).1 hq,
  fun l hl=>by
   obtain⟨q,hq⟩:=List.mem_iff_getElem?.1 hl
   exact hout q l (List.getElem?_eq_some_iff.1 hq).1 hq⟩
section
variable {N:Int} {ls:List (Int × Int)} {T:List Nd} {h:Hs} {n j:Nat} {nd:Nd} {st:St} (f:HF N ls T h n j nd st)
include f
theorem HF.may':qdy N ls T h:=
 ⟨f.tab,by rw [f.hn];omega,by rw [f.hn];exact f.nN,by rw [f.hj];omega,fun x hx=>by
  rw [f.hn,Int.toNat_natCast,f.hx] at hx
  cases hx
  rw [f.hj]
  exact_mod_cast (List.getElem?_eq_some_iff.1 f.hq).1,f.inl,f.outl,f.st0.1,f.st0.2,f.in5,f.out5,
  fun q l hq hl=>f.ris l (List.mem_of_getElem? hl),fun q l hq hl=>f.lets l (List.mem_of_getElem? hl)⟩
theorem HF.rows: ∀l∈h.inn,UpH l∧l.length≤1000:=fun l hl=>by
 have h1:=f.ris l hl
 exact⟨up_pw.2 (qih h1).1,by have:=qgt h1 (by omega);omega⟩
theorem HF.gHs:gHs h:=
 ⟨by have:=f.in5;omega,by have:=f.out5;omega,fun l hl=>by have:=(f.rows l hl).2;omega,fun l hl=>by have:=(f.lets l hl).1;omega⟩
theorem HF.takes: ∀t∈st.takes,StaP nd.states.length t.2.2:=fun t ht=>by
 obtain⟨q,hq⟩:=List.mem_iff_getElem?.1 ht
 exact(f.may.2.2.2.1 q t hq).2.2.1
end
section
variable {N:Int} {ls:List (Int × Int)} {T:List Nd} {h:Hs} {n j:Nat} {nd:Nd} {st:St} (f:HF N ls T h n j nd st)
include f
theorem HF.take (h2:h.steps < 2147483647) (x:Int) (m:Int × Int):takeH ls st h x m=(zH,1)∨ ∃h',h'.steps=h.steps+1∧qdy N ls T h'∧takeH ls st h x m=(h',0):=by
 unfold takeH
 split
 ·exact .inl rfl
 rename_i c
 have c1: ¬indexL x 0 (ins h.node 0 ls) < 0:=fun q=>c (.inl q)
 have c2:1≤m.1∧m.1≤500:=⟨by have: ¬m.1 < 1:=fun q=>c (.inr (.inl q));omega,by have: ¬500 < m.1:=fun q=>c (.inr (.inr (.inl q)));omega⟩
 have c3:0≤m.2∧m.2 < 4:=⟨by have: ¬m.2 < 0:=fun q=>c (.inr (.inr (.inr (.inl q))));omega,by have: ¬4≤m.2:=fun q=>c (.inr (.inr (.inr (.inr q))));omega⟩
 cases h1:h.inn[(indexL x 0 (ins h.node 0 ls)).toNat]? with
 | none=>exact .inl rfl
 | some l=>
   cases h3:ls[x.toNat]? with
   | none=>exact .inl rfl
   | some lk=>
     simp only
     have hl:=List.mem_of_getElem? h1
     split
     ·exact .inl rfl
     ·rename_i c4
      right
      have hs:=qjR (f:=lk.1) (a:=m.2) (d:=h.state) (m:=nd.states.length) (l:=st.takes) f.takes ⟨by rw [f.hj];omega,by rw [f.hj];exact_mod_cast (List.getElem?_eq_some_iff.1 f.hq).1⟩
      have hq:nd.states[(qbX lk.1 m.2 h.state st.takes).toNat]? =some (nd.states[(qbX lk.1 m.2 h.state st.takes).toNat]'(by have:=hs.1;have:=hs.2;omega)):=List.getElem?_eq_getElem _
      have hr:=f.ris l hl
      have hnn: ∀y∈l,y.1≠m.1:=fun y hy e=>c4 (qal ((qlI (qih hr).1).2 ⟨y,hy,e⟩))
      rw [qnL]
      refine⟨_,rfl,?_,rfl⟩
      have f':HF N ls T ⟨h.node,qbX lk.1 m.2 h.state st.takes,h.steps+1,h.inn.set (indexL x 0 (ins h.node 0 ls)).toNat (sIns l m),h.out⟩ n (qbX lk.1 m.2 h.state st.takes).toNat nd _:=
       ⟨f.tab,f.hn,by have:=hs.1;simp only;omega,f.nN,f.hx,hq,(f.tab.2.2 _ _ f.hx).2.2.2 _ _ hq,by rw [List.length_set];exact f.inl,f.outl,⟨by have:=f.st0.1;simp only;omega,by simp only;omega⟩,by simp only [List.length_set];exact f.in5,f.out5,
        fun l' hl'=>by
         rcases List.mem_or_eq_of_mem_set hl' with hl' | rfl
         ·exact f.ris l' hl'
         ·exact ris_ins hr hnn c2 c3,f.lets⟩
      exact f'.may'
end
end Go.Proofs.NO
/- The document's answer: pieces put together. -/
namespace Go.Proofs.NO
open Go Go.Idl Go.Proofs Go.GP Go.Proofs.Tryz
set_option maxHeartbeats 20000000
set_option maxRecDepth 100000
end Go.Proofs.NO
/- The document's order of pieces is the program's. -/
namespace Go.Proofs.NO
open Go Go.Idl Go.Proofs Go.GN Go.Proofs.Tryz
def UpN (l:List Pc):Prop:=l.Pairwise (fun a b=>a.node < b.node)
end Go.Proofs.NO
/- What is known of a node, and that it stays so. Plain law. -/
namespace Go.Proofs.NO
open Go Go.Idl Go.Proofs Go.GP Go.GN Go.Proofs.Tryz
structure PcB (t:Int) (p:Pc):Prop where
 s:p.sent.length≤5
 i:p.inn.length≤5
 o:p.out.length≤5
 ii: ∀l∈p.inn,(l.length:Int)≤500+t
 oo: ∀l∈p.out,l.length≤500
theorem PcB.g {t:Int} {p:Pc} (h:PcB t p) (ht:t≤1000):gPc p:=
 ⟨by have:=h.s;omega,by have:=h.i;omega,by have:=h.o;omega,fun l hl=>by have:=h.ii l hl;omega,fun l hl=>by have:=h.oo l hl;omega⟩
theorem PcB.mono {t u:Int} {p:Pc} (h:PcB t p) (ht:t≤u):PcB u p:=⟨h.s,h.i,h.o,fun l hl=>by have:=h.ii l hl;omega,h.oo⟩
theorem PcB.of {p:Pc} (h:qaA p):PcB 0 p:=by
 obtain⟨-, -,h1,h2,h3,h4,h5,h6,h7,h8⟩:=h
 refine⟨h3,h4,h5,fun l hl=>?_,fun l hl=>?_⟩
 ·obtain⟨j,hj⟩:=List.mem_iff_getElem?.1 hl
  have:=qgt (h7 j l (List.getElem?_eq_some_iff.1 hj).1 hj) (by omega)
  omega
 ·obtain⟨j,hj⟩:=List.mem_iff_getElem?.1 hl
  exact(h8 j l (List.getElem?_eq_some_iff.1 hj).1 hj).1
theorem PcB.zero:PcB 0 zPc:=⟨by simp [zPc],by simp [zPc],by simp [zPc],by simp [zPc],by simp [zPc]⟩
theorem PcB.pcF {N:Int} {ls:List (Int × Int)} {T:List Nd} {h:Hs} (f:qdy N ls T h):PcB 0 (pcF h):=by
 obtain⟨n,j,nd,st,f⟩:=HF.of f
 exact⟨by have:=f.out5;simpa [NO.pcF] using this,by have:=f.in5;simpa [NO.pcF] using this,by simp [NO.pcF],fun l hl=>by simp only [NO.pcF] at hl;rw [(List.mem_replicate.1 hl).2];simp,fun l hl=>by simp [NO.pcF] at hl⟩
theorem PcB.pcL {N:Int} {ls:List (Int × Int)} {T:List Nd} {h:Hs} (f:qdy N ls T h):PcB 0 (pcL h):=by
 obtain⟨n,j,nd,st,f⟩:=HF.of f
 exact⟨by have:=f.out5;simpa [NO.pcL] using this,f.in5,f.out5,fun l hl=>by have:=qgt (f.ris l hl) (by omega);omega,fun l hl=>(f.lets l hl).1⟩
structure NOk (N:Int) (ls:List (Int × Int)) (T:List Nd) (t:Int) (x:No):Prop where
 host:qdy N ls T x.h
 st:x.h.steps≤t
 gm:PcB t x.m.p
 m0:0≤x.m.epoch∧x.m.epoch≤200
 mo:x.m.opn.length=x.m.p.inn.length
 ml:x.m.epoch≠0→x.m.opn.length=x.h.inn.length∧x.m.p.node=x.h.node
 gu:PcB t x.u.p
 u0:0≤x.u.epoch∧x.u.epoch≤200
 un:x.u.epoch≠0→x.u.p.node=x.h.node
 tw:0≤x.t.wait∧x.t.wait≤5
 te:0≤x.t.epoch∧x.t.epoch≤200
 tk:(x.t.kids.length:Int)≤t
 got: ∀p∈x.got,qaA p
 gr:UpN x.got
 hd:0≤x.heard∧x.heard≤t
 td:0≤x.told∧x.told≤x.t.epoch
 sn:x.seen.length≤6
theorem qsc {l:List Pc} (h:UpN l) (hp: ∀p∈l,qaA p):l.length≤6:=by
 have nd:(l.map fun p=>p.node.toNat).Nodup:=by
  rw [List.nodup_iff_pairwise_ne,List.pairwise_map]
  refine List.Pairwise.imp_of_mem (fun {a b} ha hb h1=>?_) h
  have ha:=(hp a ha).1
  have hb:=(hp b hb).1
  omega
 have:=qlH 6 _ nd (fun n hn=>by
  obtain⟨p,h1,rfl⟩:=List.mem_map.1 hn
  have:=(hp p h1).1
  omega)
 simpa using this
section
variable {N:Int} {ls:List (Int × Int)} {T:List Nd} {t:Int} {x:No}
theorem NOk.mono (h:NOk N ls T t x) {u:Int} (hu:t≤u):NOk N ls T u x:=
 ⟨h.host,by have:=h.st;omega,h.gm.mono hu,h.m0,h.mo,h.ml,h.gu.mono hu,h.u0,h.un,h.tw,h.te,by have:=h.tk;omega,h.got,h.gr,by have:=h.hd;omega,h.td,h.sn⟩
theorem NOk.new {h:Hs} (hh:qdy N ls T h) (h0:h.steps=0):NOk N ls T 0 (newN h):=
 ⟨hh,by simp [newN,h0],PcB.zero,by simp [newN,zMk],by simp [newN,zMk,zPc],by simp [newN,zMk],PcB.zero,by simp [newN,zHu],by simp [newN,zHu],by simp [newN,zTr],by simp [newN,zTr],by simp [newN,zTr],
  by simp [newN],by simp [newN,UpN],by simp [newN],by simp [newN,zTr],by simp [newN]⟩
theorem NOk.got6 (h:NOk N ls T t x):x.got.length≤6:=qsc h.gr h.got
theorem mrg_cases (a b:List Pc):(mrg a b).2=4∧(mrg a b).1= []∨(mrg a b).2=0∧(mrg a b).1.Perm (a++b)∧UpN (mrg a b).1:=by
 unfold mrg
 cases hm:qgn Pc.node a b with
 | none=>exact .inl ⟨rfl,rfl⟩
 | some q=>exact .inr ⟨rfl,(qfa Pc.node).1 hm⟩
theorem NOk.setTold (h:NOk N ls T t x):NOk N ls T t (setTold x x.t.epoch):=
 ⟨h.host,h.st,h.gm,h.m0,h.mo,h.ml,h.gu,h.u0,h.un,h.tw,h.te,h.tk,h.got,h.gr,h.hd,⟨h.te.1,Int.le_refl _⟩,h.sn⟩
theorem NOk.flood {d:Td} (h:NOk N ls T t d.x) (ff:Bool) (e:Int):NOk N ls T t (floodN ls ff d e).x:=
 ⟨h.host,h.st,h.gm,h.m0,h.mo,h.ml,h.gu,h.u0,h.un,h.tw,h.te,h.tk,fun p hp=>by simp [floodN] at hp,by simp [floodN,UpN],⟨by simp [floodN],by have:=h.hd;simp only [floodN];omega⟩,h.td,h.sn⟩
theorem NOk.tell {d:Td} (h:NOk N ls T t d.x) (ff:Bool) (he:(qaw ls ff d).e=0):NOk N ls T t (qaw ls ff d).x:=by
 unfold qaw at he ⊢
 split
 ·rename_i c
  rw [if_pos c] at he
  split
  ·rename_i c2
   rw [if_pos c2] at he
   exact absurd he c2
  ·split<;>exact h.setTold
 ·exact h
theorem NOk.begin_ (h:NOk N ls T t x) {e:Int} (he:1≤e∧e≤200) (ht:0≤t):NOk N ls T t ⟨x.h,qa6 x.h e,x.u,x.t,x.got,x.heard,x.told,x.seen⟩:=
 ⟨h.host,h.st,(PcB.pcF h.host).mono ht,⟨by simp only [qa6];omega,by simp only [qa6];omega⟩,by simp [qa6,pcF],fun _=>⟨by simp [qa6],rfl⟩,h.gu,h.u0,h.un,h.tw,h.te,h.tk,h.got,h.gr,h.hd,h.td,h.sn⟩
theorem NOk.mark (h:NOk N ls T t x) {e:Int} (he:1≤e∧e≤200) (ht:0≤t) (at_:Int):NOk N ls T t ⟨x.h,(qa2 x.m x.h e at_).1,x.u,x.t,x.got,x.heard,x.told,x.seen⟩:=by
 unfold qa2
 split
 ·exact h
 split
 ·exact⟨h.host,h.st,h.gm,h.m0,by simp only [List.length_set];exact h.mo,fun q=>by simp only [List.length_set];exact h.ml q,h.gu,h.u0,h.un,h.tw,h.te,h.tk,h.got,h.gr,h.hd,h.td,h.sn⟩
 ·exact⟨h.host,h.st,(PcB.pcF h.host).mono ht,⟨by simp only;omega,by simp only;omega⟩,by simp [pcF],fun _=>⟨by simp,rfl⟩,h.gu,h.u0,h.un,h.tw,h.te,h.tk,h.got,h.gr,h.hd,h.td,h.sn⟩
theorem NOk.turn (h:NOk N ls T t x) {e:Int} (he:e≤200) (ht:0≤t):NOk N ls T t ⟨x.h,x.m,(qa1 x.u x.h e).1,x.t,x.got,x.heard,x.told,x.seen⟩:=by
 unfold qa1
 split
 ·exact h
 ·rename_i c
  have:=h.u0
  exact⟨h.host,h.st,h.gm,h.m0,h.mo,h.ml,(PcB.pcL h.host).mono ht,⟨by simp only;omega,he⟩,fun _=>rfl,h.tw,h.te,h.tk,h.got,h.gr,h.hd,h.td,h.sn⟩
theorem NOk.tree (h:NOk N ls T t x) {t':Tr} (h1:0≤t'.wait∧t'.wait≤5) (h2:0≤t'.epoch∧t'.epoch≤200) (h3:(t'.kids.length:Int)≤t) (h4:x.told≤t'.epoch):NOk N ls T t ⟨x.h,x.m,x.u,t',x.got,x.heard,x.told,x.seen⟩:=
 ⟨h.host,h.st,h.gm,h.m0,h.mo,h.ml,h.gu,h.u0,h.un,h1,h2,h3,h.got,h.gr,h.hd,⟨h.td.1,h4⟩,h.sn⟩
theorem NOk.withH (h:NOk N ls T t x) {h':Hs} (H:qdy N ls T h') (hn:h'.node=x.h.node) (hs:h'.steps≤t+1):NOk N ls T (t+1) ⟨h',x.m,x.u,x.t,x.got,x.heard,x.told,x.seen⟩:=by
 have k:=h.mono (u:=t+1) (by omega)
 obtain⟨n,j,nd,st,f⟩:=HF.of h.host
 obtain⟨n',j',nd',st',f'⟩:=HF.of H
 have e:h'.inn.length=x.h.inn.length:=by rw [f.inl,f'.inl,hn]
 exact⟨H,hs,k.gm,k.m0,k.mo,fun q=>⟨by rw [e];exact(k.ml q).1,by rw [hn];exact(k.ml q).2⟩,k.gu,k.u0,fun q=>by rw [hn];exact k.un q,k.tw,k.te,k.tk,k.got,k.gr,k.hd,k.td,k.sn⟩
theorem NOk.appM (h:NOk N ls T t x) (hg:PcB (t - 1) x.m.p) (ht:1≤t) (at_:Int) (m:Int × Int):NOk N ls T t ⟨x.h,appM x.m at_ m,x.u,x.t,x.got,x.heard,x.told,x.seen⟩:=by
 unfold NO.appM
 split
 ·exact h
 ·rename_i c
  have c1: ¬at_ < 0:=fun q=>c (.inl q)
  have c2:at_.toNat < x.m.p.inn.length:=by
   have: ¬(x.m.opn.length:Int)≤at_:=fun q=>c (.inr (.inl q))
   have:=h.mo
   omega
  refine⟨h.host,h.st,⟨hg.s,by simp only [List.length_set];exact hg.i,hg.o,fun l hl=>?_,hg.oo⟩,h.m0,by simp only [List.length_set];exact h.mo,h.ml,h.gu,h.u0,h.un,h.tw,h.te,h.tk,h.got,h.gr,h.hd,h.td,h.sn⟩
  simp only at hl
  rcases List.mem_or_eq_of_mem_set hl with hl | rfl
  ·have:=hg.ii l hl;omega
  ·rw [List.getElem?_eq_getElem c2,Option.getD_some]
   have:=hg.ii _ (List.getElem_mem c2)
   simp only [List.length_append,List.length_singleton]
   omega
theorem qfi {st:St} {h:Hs} {y:Int} {m:Int × Int} (he:(takeH ls st h y m).2=0):(takeH ls st h y m).1.node=h.node:=by
 unfold takeH at he ⊢
 split
 ·rename_i c;rw [if_pos c] at he;cases he
 ·rename_i c
  rw [if_neg c] at he
  split
  ·rename_i l lk e1 e2
   rw [e1,e2] at he
   simp only at he
   split
   ·rename_i c2;rw [if_pos c2] at he;cases he
   ·rfl
  ·rename_i c2
   exfalso
   revert he
   split
   ·rename_i e1 e2;exact fun _=>c2 _ _ e1 e2
   ·intro q;cases q
theorem NOk.hf (h:NOk N ls T t x): ∃n j nd,HF N ls T x.h n j nd (stOf T x.h):=by
 obtain⟨n,j,nd,st,f⟩:=HF.of h.host
 have:stOf T x.h=st:=by
  unfold stOf
  rw [f.hn,Int.toNat_natCast,f.hx,Option.getD_some,f.hj,Int.toNat_natCast,f.hq,Option.getD_some]
 rw [this]
 exact⟨n,j,nd,f⟩
theorem NOk.outs5 (h:NOk N ls T t x):(outs x.h.node 0 ls).length≤5:=by
 obtain⟨n,j,nd,f⟩:=h.hf
 rw [←f.outl];exact f.out5
theorem NOk.hear (h:NOk N ls T t x) (ht:0≤t) (hb:t≤1000) (ff:Bool) (link:Int) (f:Fm) (he:(hearN ls ff (stOf T x.h) x link f).e=0):NOk N ls T (t+1) (hearN ls ff (stOf T x.h) x link f).x:=by
 unfold hearN at he ⊢
 split
 ·rename_i c;rw [if_pos c] at he;cases he
 rename_i c
 rw [if_neg c] at he
 have hF:FrP f:=Classical.byContradiction fun q=>c (.inr q)
 have h5:=h.outs5
 have h1:=h.mono (u:=t+1) (by omega)
 split
 ·rename_i k0
  rw [if_pos k0] at he
  unfold appN at he ⊢
  split
  ·rename_i c2;rw [if_pos c2] at he;exact absurd he c2
  rename_i c2
  obtain⟨n,j,nd,g⟩:=h.hf
  have hst:=h.st
  rcases g.take (by omega) link f.m with e | ⟨h',e1,e2,e3⟩
  ·rw [e] at c2;exact absurd (by decide) c2
  have hn:=qfi (ls:=ls) (st:=stOf T x.h) (h:=x.h) (y:=link) (m:=f.m) (by rw [e3])
  have e0:(0≤f.epoch∧f.epoch≤200):=by
   rcases hF with q | q | q | q
   ·omega
   ·exact q.2.2.1
   ·omega
   ·omega
  have w:=h.withH (h':=(takeH ls (stOf T x.h) x.h link f.m).1) (by rw [e3];exact e2) hn (by rw [e3];simp only;omega)
  cases ff
  ·have w2:=(h1.turn (e:=f.epoch) (by omega) (by omega))
   simp only [Bool.false_eq_true,if_false]
   exact⟨w.host,w.st,w.gm,w.m0,w.mo,w.ml,w2.gu,w2.u0,fun q=>by rw [hn];exact w2.un q,w.tw,w.te,w.tk,w.got,w.gr,w.hd,w.td,w.sn⟩
  ·simp only [if_true]
   exact w.appM (by rw [show t+1 - 1=t by omega];exact h.gm) (by omega) _ _
 rename_i k0
 rw [if_neg k0] at he
 split
 ·rename_i k1
  rw [if_pos k1] at he
  have e0:1≤f.epoch∧f.epoch≤200:=by
   rcases hF with q | q | q | q
   ·omega
   ·omega
   ·exact q.2.1.2.1
   ·omega
  unfold floodedN at he ⊢
  split
  ·rename_i c2;rw [if_pos c2] at he;cases he
  rename_i c2
  rw [if_neg c2] at he
  split
  ·rename_i c3;rw [if_pos c3] at he;cases he
  rename_i c3
  rw [if_neg c3] at he
  have hx:NOk N ls T (t+1) ⟨x.h,if ff then(qa2 x.m x.h f.epoch (indexL link 0 (ins x.h.node 0 ls))).1 else x.m,if ff then x.u else(qa1 x.u x.h f.epoch).1,x.t,x.got,x.heard,x.told,x.seen⟩:=by
   cases ff
   ·exact h1.turn e0.2 (by omega)
   ·exact h1.mark e0 (by omega) _
  split
  ·rename_i c4
   rw [if_pos c4] at he
   exact NOk.tell hx ff he
  ·rename_i c4
   rw [if_neg c4] at he
   have htd:=h1.td
   refine NOk.tell (NOk.flood ?_ ff _) ff he
   refine hx.tree ?_ ?_ ?_ ?_
   ·unfold qbR;rw [if_neg c4];simp only;split<;>omega
   ·unfold qbR;rw [if_neg c4];simp only;omega
   ·unfold qbR;rw [if_neg c4];simp;omega
   ·unfold qbR;rw [if_neg c4];simp only;omega
 rename_i k1
 rw [if_neg k1] at he
 split
 ·rename_i k2
  rw [if_pos k2] at he
  unfold repliedN at he ⊢
  split
  ·rename_i c2;rw [if_pos c2] at he;exact absurd he c2
  rename_i c2
  rw [if_neg c2] at he
  refine NOk.tell ?_ ff he
  have q: ¬(x.t.epoch≠f.epoch∨x.t.wait < 1):=fun q=>c2 (by unfold replyT;rw [if_pos q];decide)
  have q1: ¬x.t.wait < 1:=fun z=>q (.inr z)
  have htw:=h.tw
  have htk:=h.tk
  have htd:=h.td
  refine h1.tree ?_ ?_ ?_ ?_
  ·unfold replyT;rw [if_neg q];simp only;omega
  ·unfold replyT;rw [if_neg q];exact h.te
  ·unfold replyT;rw [if_neg q];simp only;split
   ·simp only [List.length_append,List.length_singleton];omega
   ·omega
  ·unfold replyT;rw [if_neg q];exact htd.2
 rename_i k2
 rw [if_neg k2] at he
 split
 ·rename_i k3
  rw [if_pos k3] at he
  unfold reportedN at he ⊢
  split
  ·rename_i c2;rw [if_pos c2] at he;cases he
  rename_i c2
  rw [if_neg c2] at he
  split
  ·rename_i c3;rw [if_pos c3] at he;exact absurd he c3
  rename_i c3
  rw [if_neg c3] at he
  refine NOk.tell ?_ ff he
  have hp: ∀p∈f.ps,qaA p:=by
   rcases hF with q | q | q | q
   ·omega
   ·omega
   ·omega
   ·exact q.2.2.2
  rcases mrg_cases x.got f.ps with ⟨q,_⟩ | ⟨_,q1,q2⟩
  ·rw [q] at c3;exact absurd (by decide) c3
  have hhd:=h.hd
  exact⟨h1.host,h1.st,h1.gm,h1.m0,h1.mo,h1.ml,h1.gu,h1.u0,h1.un,h1.tw,h1.te,h1.tk,fun p hp'=>by
   rcases List.mem_append.1 (q1.mem_iff.1 hp') with z | z
   ·exact h.got p z
   ·exact hp p z,q2,⟨by simp only;omega,by simp only;omega⟩,h1.td,h1.sn⟩
 rename_i k3
 have k6:qbp f:=by
  rcases hF with q | q | q | q
  ·exact q.2
  ·omega
  ·omega
  ·omega
 refine⟨h1.host,h1.st,h1.gm,h1.m0,h1.mo,h1.ml,h1.gu,h1.u0,h1.un,h1.tw,h1.te,h1.tk,h1.got,h1.gr,h1.hd,h1.td,?_⟩
 have hsn:=h.sn
 have k7:=k6.2.2.2.1
 unfold probedN hearP
 simp only
 split
 ·exact hsn
 ·split
  ·exact hsn
  ·split
   ·exact hsn
   ·simp only [List.length_set,List.length_append,List.length_replicate];omega
theorem NOk.start (h:NOk N ls T t x) (ht:0≤t) (ff:Bool) (e:Int) (he:(startN ls ff x e).e=0):NOk N ls T t (startN ls ff x e).x:=by
 unfold startN at he ⊢
 split
 ·rename_i c;rw [if_pos c] at he;cases he
 rename_i c
 rw [if_neg c] at he
 have e0:1≤e∧e≤200∧x.t.epoch < e:=by omega
 have hx:NOk N ls T t ⟨x.h,if ff then qa6 x.h e else x.m,if ff then x.u else(qa1 x.u x.h e).1,x.t,x.got,x.heard,x.told,x.seen⟩:=by
  cases ff
  ·exact h.turn e0.2.1 ht
  ·exact h.begin_ ⟨e0.1,e0.2.1⟩ ht
 have h5:=h.outs5
 have htd:=h.td
 refine NOk.tell (NOk.flood ?_ ff _) ff he
 refine hx.tree ?_ ?_ ?_ ?_
 ·unfold qbT;simp only;split<;>omega
 ·unfold qbT;simp only;omega
 ·unfold qbT;simp;omega
 ·unfold qbT;simp only;omega
end
end Go.Proofs.NO
/- A node floods; what frames do to it. -/
namespace Go.Proofs.NO
open Go Go.Idl Go.Proofs Go.GP Go.Proofs.Tryz
set_option maxHeartbeats 20000000
set_option maxRecDepth 100000
theorem qou (N:Int) (ls:List (Int × Int)) (T:List Nd) (ff:Bool) (x:No) (n:Nat) (o:List Ou) (ps:List Pc) (path:List Int) (link:Int) (f:Fm) (ho:o.length=n) (hl:ls.length≤1000000) (hn:n+(outs x.h.node 0 ls).length≤900) (e:Int):
  PG prog 194 [.ptr 0 0 0 0,sci .i64 e] [.arr 45 0 [wRow N ls T ff x (.ref 1 n 0 n) ps path link f], .arr 10 n (ir eOu o)] 0 (.tup [])
   [(0, .arr 45 0 [wRow N ls T ff ⟨x.h,x.m,x.u,x.t, [],0,x.told,x.seen⟩ (.ref 1 (n+(outs x.h.node 0 ls).length) 0 (n+(outs x.h.node 0 ls).length)) ps path link f]),
    (1, .arr 10 (n+(outs x.h.node 0 ls).length) (ir eOu (o++(outs x.h.node 0 ls).map (fun l=>(⟨l,ctl (kindN ff) e⟩:Ou)))))]:=by
 have hO:=fun x' h=>qfX N ls T ff x' n o ps path link f h
 have hO2:=hO ⟨x.h,x.m,x.u,x.t, [],0,x.told,x.seen⟩ hl
 clear hO
 simp only at hO2
 generalize outs x.h.node 0 ls=L at *
 refine pg_of 200 (fn:=f194) func194 rfl (by simp [ntmps194]) 2 rfl zC zC zC zC zC fun hs=>?_
 try refine zW ?_
 refine qbN 200 [] ⟨29, [(0, .ptr 0 0 0 0),(1,sci .i64 e),(14, .ptr 0 0 0 0)], [],2, [(0, .arr 45 0 [wRow N ls T ff ⟨x.h,x.m,x.u,x.t, [],0,x.told,x.seen⟩ (.ref 1 n 0 n) ps path link f]),(1, .arr 10 n (ir eOu o))]⟩ trivial ?_ ?_
 ·constructor<;>((try refine zO ?_);(try with_reducible exact True.intro))
 try refine zW ?_
 (refine at_g 200 ?_;refine zW ?_;refine callG_of [0,1] (hO2) zU ?_;try refine zW ?_)
 have t0:(L.take 0).map (fun l=>(⟨l,ctl (kindN ff) e⟩:Ou))= []:=by rw [List.take_zero];rfl
 refine qac 200 200 (fun i:Nat=>i≤L.length)
  (fun i=>⟨29, [(0, .ptr 0 0 0 0),(1,sci .i64 e),(15,lI L),(16,sci .i64 L.length),(17,sci .i64 i)], [],2, [(0, .arr 45 0 [wRow N ls T ff ⟨x.h,x.m,x.u,x.t, [],0,x.told,x.seen⟩ (.ref 1 (n+i) 0 (n+i)) ps path link f]),(1, .arr 10 (n+i) (ir eOu (o++(L.take i).map (fun l=>(⟨l,ctl (kindN ff) e⟩:Ou)))))]⟩) (fun i=>L.length - i) (0) [] ?_ ?_ ?_
 ·simp
 ·constructor<;>(try simp (maxSteps:=2000000) (disch:=omega) only [go_sem,simprocAttr,zD,zE,Int.natCast_zero,List.take_of_length_le,List.append_assoc,t0,List.append_nil,Nat.add_zero])
 ·rintro i hi
  try refine zW ?_
  by_cases li:i < L.length
  ·have hs:=qcS N ls T ff ⟨x.h,x.m,x.u,x.t, [],0,x.told,x.seen⟩ (n+i) (o++(L.take i).map (fun l=>(⟨l,ctl (kindN ff) e⟩:Ou))) ps path link f (by simp;omega) (by omega) L[i] (ctl (kindN ff) e)
   have hk:=qjt N ls T ff ⟨x.h,x.m,x.u,x.t, [],0,x.told,x.seen⟩ (n+i) (o++(L.take i).map (fun l=>(⟨l,ctl (kindN ff) e⟩:Ou))) ps path link f
   have hsn:o++(L.take i).map (fun l=>(⟨l,ctl (kindN ff) e⟩:Ou))++ [⟨L[i],ctl (kindN ff) e⟩]=o++(L.take (i+1)).map (fun l=>(⟨l,ctl (kindN ff) e⟩:Ou)):=by
    rw [List.take_succ_eq_append_getElem li,List.map_append,List.append_assoc];rfl
   rw [hsn] at hs
   clear hsn
   generalize o++(L.take i).map (fun l=>(⟨l,ctl (kindN ff) e⟩:Ou))=A at *
   generalize hB:o++(L.take (i+1)).map (fun l=>(⟨l,ctl (kindN ff) e⟩:Ou))=B at hs
   simp only [ctl] at hs
   (try simp (maxSteps:=2000000) (disch:=omega) only [go_sem,simprocAttr,zD,zE,eI])
   (refine at_g 200 ?_;refine zW ?_;refine callG_of [0,1] (hk) zU ?_)
   try refine zO ?_
   (refine at_g 200 ?_;refine zW ?_;refine callG_of [0,1] (hs) zU ?_;try refine zW ?_)
   refine⟨i+1, [],by first | assumption | omega,?_,?_⟩
   ·(try simp only []);omega
   ·constructor<;>(try simp (maxSteps:=2000000) (disch:=omega) only [go_sem,simprocAttr,zD,zE,Nat.add_assoc,hB,List.append_assoc])
  ·obtain rfl:i=L.length:=by omega
   rw [List.take_length]
   ((try refine zO ?_);(try with_reducible exact True.intro))
end Go.Proofs.NO
