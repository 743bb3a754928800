/- Facts leant on. -/
import Derived.Test.YtfhhdgkhajkapaaGreatNMe
import Derived.Test.YtfhhdgkhajkapaaGreatNxDd
import Derived.Test.YtfhhdgkhajkapaaGreatNQB
import Derived.Test.YtfhhdgkhajkapaaGreatNzP2
import Derived.Test.YtfhhdgkhajkapaaGreatNPC
import Derived.Test.YtfhhdgkhajkapaaGreatNMd
import Derived.Test.YtfhhdgkhajkapaaGreatNPS
import Derived.Test.YtfhhdgkhajkapaaGreatNGa
import Derived.Test.YtfhhdgkhajkapaaGreatNH
import Derived.Test.YtfhhdgkhajkapaaGreatGP
import Derived.Test.YtfhhdgkhajkapaaGreatGN
import Derived.Test.YtfhhdgkhajkapaaGreatIdZo
import Derived.Test.YtfhhdgkhajkapaaGreatNNh
import Derived.Test.YtfhhdgkhajkapaaGreatNNg
set_option linter.all false
open List renaming mem_of_getElem?->Ka,getElem?_eq_getElem->Kb,mem_or_eq_of_mem_set->Kc,length_set->Kd,append_assoc->Ke,length_append->Kf
open Int renaming toNat_natCast->Kg
namespace Go.Proofs.NO
open Go Go.Idl Go.Proofs Go.GP Go.Proofs.Tryz
def pickH_cases{ls st h k}:(∃e:Int,e≠0/\pickH ls st h k=(zHs, [],e))\/
  ∃p out sent,p∈st.picks/\pkGo ls h.node p.2 h.out []=some (out,sent)/\pickH ls st h k=(⟨h.node,p.1,h.steps+1,h.inn,out⟩,sent,0):=by
 unfold pickH;split
 .simp
 split
 .simp
 cases a:st.picks[k.toNat]? with
 | none=>simp
 | some p=>
   simp only;cases b:pkGo ls h.node p.2 h.out [] with
   | none=>simp
   | some r=>grind
end Go.Proofs.NO
/- What a node may tell: the program's answer. -/
namespace Go.Proofs.NO
open Go Go.Idl Go.Proofs Go.Proofs.Tryz
set_option maxHeartbeats 0
set_option maxRecDepth 100000
def ToldPH(h:Hs):Prop:=0<=h.steps/\h.steps<=2147483647/\h.inn.length<=5/\h.out.length<=5/\(∀(j:Nat) (l:List (Int × Int)),j < h.inn.length->h.inn[j]? =some l->RisP 0 l)/\ ∀(j:Nat) (l:List Int),j < h.out.length->h.out[j]? =some l->l.length<=500/\qci l
end Go.Proofs.NO
/- Whether a host may be. -/
namespace Go.Proofs.NO
open Go Go.Idl Go.Proofs Go.GP Go.Proofs.Tryz
set_option maxHeartbeats 0
set_option maxRecDepth 100000
def qdz(N:Int)(ls:List (Int × Int))(T:List Nd)(h:Hs):Prop:=
 TabP N ls T/\0<=h.node/\h.node < N/\0<=h.state/\(∀x,T[h.node.toNat]? =some x->h.state < x.states.length)/\h.inn.length=(ins h.node 0 ls).length/\h.out.length=(outs h.node 0 ls).length/\ToldPH h
def rng(a:Nat):List Int:=(List.range a).map λq:Nat=>(q:Int)
end Go.Proofs.NO
namespace Go.Proofs.NO
open Go Go.Idl Go.Proofs Go.GP Go.Proofs.Tryz
structure HF(N:Int)(ls:List (Int × Int))(T:List Nd)(h:Hs)(n j:Nat)(nd:Nd)(st:St):Prop where
 tab:TabP N ls T
 hn:h.node=n
 hj:h.state=j
 nN:(n:Int) < N
 hx:T[n]? =some nd
 hq:nd.states[j]? =some st
 may:MayP ls n nd.states st
 inl:h.inn.length=(ins h.node 0 ls).length
 outl:h.out.length=(outs h.node 0 ls).length
 st0:0<=h.steps/\h.steps<=2147483647
 in5:h.inn.length<=5
 out5:h.out.length<=5
 ris: ∀l∈h.inn,RisP 0 l
 lets: ∀l∈h.out,l.length<=500/\qci l
def HF.of{N ls T h}(u:qdz N ls T h): ∃n j v st,HF N ls T h n j v st:=by
 obtain⟨a,w,x,y,m,o,p,b,c,d,e,f,g⟩:=u;have r:h.node.toNat < T.length:=by have:=a.2.1;omega
 have hnd:=Kb r;have s:h.state.toNat < T[h.node.toNat].states.length:=wg
 have i:=Kb s;exact⟨h.node.toNat,h.state.toNat,_,_,a,wa,wa,wa,hnd,i,(a.2.2 _ _ hnd).2.2.2 _ _ i,o,p,⟨b,c⟩,d,e,
  λl t=>by
   obtain⟨q,k⟩:=List.mem_iff_getElem?.1 t
   grind,
  λl t=>by
   obtain⟨q,k⟩:=List.mem_iff_getElem?.1 t
   grind⟩
section
variable{N:Int}{ls:List (Int × Int)}{T:List Nd}{h:Hs}{n j:Nat}{nd:Nd}{st:St}(f:HF N ls T h n j nd st)
include f
theorem HF.may':qdz N ls T h:=
 ⟨f.tab,by rw[f.hn];omega,by rw[f.hn];exact f.nN,by rw[f.hj];omega,λx b=>by
  rw[f.hn,Kg,f.hx] at b;cases b;rw[f.hj];exact_mod_cast (List.getElem?_eq_some_iff.1 f.hq).1,f.inl,f.outl,f.st0.1,f.st0.2,f.in5,f.out5,
  λq l c a=>f.ris l (Ka a),λq l c a=>f.lets l (Ka a)⟩
theorem HF.rows: ∀l∈h.inn,UpH l/\l.length<=1000:=λl b=>by
 have a:=f.ris l b;exact⟨up_pw.2 (qix a).1,by have:=qg8 a wa;omega⟩
theorem HF.gHs:gHs h:=
 ⟨by have:=f.in5;omega,by have:=f.out5;omega,λl a=>by have:=(f.rows l a).2;omega,λl a=>by have:=(f.lets l a).1;omega⟩
theorem HF.picks: ∀p∈st.picks,StaP nd.states.length p.1/\p.2.length<=4/\ ∀y∈p.2,(h.node,y.1)∈ls/\LetP y.2:=λp b=>by
 obtain⟨q,c⟩:=List.mem_iff_getElem?.1 b;obtain⟨d,e,g⟩:=f.may.2.2.1.2.2 q p c;exact⟨d,e,λy i=>by
  obtain⟨k,a⟩:=List.mem_iff_getElem?.1 i;rw[f.hn];exact g k y a⟩
theorem HF.takes: ∀t∈st.takes,StaP nd.states.length t.2.2:=λt a=>by
 obtain⟨q,b⟩:=List.mem_iff_getElem?.1 a;exact(f.may.2.2.2.1 q t b).2.2.1
end
def qjy{l x}(h:qci l)(b:LetP x):qci (l++ [x]):=λj y e d=>by
 have:=Ka d;rcases List.mem_append.1 this with a | a
 .obtain⟨q,c⟩:=List.mem_iff_getElem?.1 a;exact h q y (List.getElem?_eq_some_iff.1 c).1 c
 .obtain rfl:=List.mem_singleton.1 a;have a:=b.1;have g:=b.2;omega
def qjE{ls n}: ∀ {sends out sent r},
  (∀y∈sends,LetP y.2)->(∀l∈out,l.length<=500/\qci l)->pkGo ls n sends out sent=some r->(∀l∈r.1,l.length<=500/\qci l)/\r.1.length=out.length/\r.2.length=sent.length+sends.length
 | [],out,sent,r,_,a,h=>by
   grind[pkGo]
 | s::sends,out,sent,r,b,a,h=>by
   unfold pkGo at h;split at h
   .grind
   have i:=qjE (λy e=>b y wg) (λl d=>?_) h
   .grind
   .rcases Kc d with d | rfl
    .grind
    .generalize o:out[(indexL (qay n s.1 0 ls) 0 (outs n 0 ls)).toNat]? =z at *;cases z with
     | none=>exact⟨wb,qjy (λj x p=>by simp) (b s wb)⟩
     | some q=>
       have:=a q (Ka o);exact⟨wg,qjy this.2 (b s wb)⟩
section
variable{N:Int}{ls:List (Int × Int)}{T:List Nd}{h:Hs}{n j:Nat}{nd:Nd}{st:St}(f:HF N ls T h n j nd st)
include f
theorem HF.pick(u:h.steps < 2147483647)(k):(∃e:Int,e≠0/\pickH ls st h k=(zHs, [],e))\/ ∃h' S,h'.steps=h.steps+1/\S.length<=4/\qdz N ls T h'/\pickH ls st h k=(h',S,0):=by
 rcases pickH_cases (ls:=ls) (st:=st) (h:=h) (k:=k) with d | ⟨p,o,s,g,a,e⟩
 .grind
 .right;obtain⟨b,v,i⟩:=f.picks p g;obtain⟨m,l,q⟩:=qjE (λy r=>(i y r).2) f.lets a;refine⟨_,_,rfl,wg,?_,e⟩;have c:nd.states[p.1.toNat]? =some (nd.states[p.1.toNat]'(by have:=b.1;have:=b.2;omega)):=Kb _;have t:HF N ls T ⟨h.node,p.1,h.steps+1,h.inn,o⟩ n p.1.toNat nd _:=
   ⟨f.tab,f.hn,by have:=b.1;grind,f.nN,f.hx,c,(f.tab.2.2 _ _ f.hx).2.2.2 _ _ c,f.inl,by rw[<-f.outl];omega,⟨by have:=f.st0.1;grind,wg⟩,f.in5,by have:=f.out5;grind,f.ris,m⟩
  exact t.may'
theorem HF.take(A:h.steps < 2147483647)(x:Int)(m:Int × Int):takeH ls st h x m=(zH,1)\/ ∃h',h'.steps=h.steps+1/\qdz N ls T h'/\takeH ls st h x m=(h',0):=by
 unfold takeH;split
 .exact .inl rfl
 rename_i c;have B: ¬indexL x 0 (ins h.node 0 ls) < 0:=λq=>c (.inl q)
 have p:1<=m.1/\m.1<=500:=⟨wa,wa⟩;have r:0<=m.2/\m.2 < 4:=⟨wa,wa⟩;cases s:h.inn[(indexL x 0 (ins h.node 0 ls)).toNat]? with
 | none=>exact .inl rfl
 | some l=>
   cases C:ls[x.toNat]? with
   | none=>exact .inl rfl
   | some lk=>
     simp only;have t:=Ka s;split
     .exact .inl rfl
     .rename_i u;right;have g:=qjW (f:=lk.1) (a:=m.2) (d:=h.state) (m:=nd.states.length) (l:=st.takes) f.takes ⟨by rw[f.hj];omega,by rw[f.hj];exact_mod_cast (List.getElem?_eq_some_iff.1 f.hq).1⟩;have k:nd.states[(qbu lk.1 m.2 h.state st.takes).toNat]? =some (nd.states[(qbu lk.1 m.2 h.state st.takes).toNat]'(by have:=g.1;have:=g.2;omega)):=Kb _;have o:=f.ris l t;have i: ∀y∈l,y.1≠m.1:=λy v e=>u (qap ((posL_has (qix o).1).2 ⟨y,v,e⟩))
      rw[qnB];refine⟨_,rfl,?_,rfl⟩;have w:HF N ls T ⟨h.node,qbu lk.1 m.2 h.state st.takes,h.steps+1,h.inn.set (indexL x 0 (ins h.node 0 ls)).toNat (sIns l m),h.out⟩ n (qbu lk.1 m.2 h.state st.takes).toNat nd _:=
       ⟨f.tab,f.hn,by have:=g.1;simp only;omega,f.nN,f.hx,k,(f.tab.2.2 _ _ f.hx).2.2.2 _ _ k,by rw[Kd];exact f.inl,f.outl,⟨by have:=f.st0.1;simp only;omega,wc⟩,by simp only[Kd];exact f.in5,f.out5,
        λz b=>by
         rcases Kc b with b | rfl
         .exact f.ris z b
         .exact ris_ins o i p r,f.lets⟩
      exact w.may'
end
end Go.Proofs.NO
/- The document's answer: pieces put together. -/
namespace Go.Proofs.NO
open Go Go.Idl Go.Proofs Go.GP Go.Proofs.Tryz
set_option maxHeartbeats 0
set_option maxRecDepth 100000
end Go.Proofs.NO
namespace Go.Proofs.NO
open Go Go.Idl Go.Proofs Go.GN Go.Proofs.Tryz
def UpN(l:List Pc):Prop:=l.Pairwise (λa b=>a.node < b.node)
end Go.Proofs.NO
namespace Go.Proofs.NO
open Go Go.Idl Go.Proofs Go.GP Go.GN Go.Proofs.Tryz
structure PcB(t:Int)(p:Pc):Prop where
 s:p.sent.length<=5
 i:p.inn.length<=5
 o:p.out.length<=5
 ii: ∀l∈p.inn,(l.length:Int)<=500+t
 oo: ∀l∈p.out,l.length<=500
theorem PcB.g{t p}(h:PcB t p)(b:t<=1000):gPc p:=
 ⟨by have:=h.s;omega,by have:=h.i;omega,by have:=h.o;omega,λl a=>by have:=h.ii l a;omega,λl a=>by have:=h.oo l a;omega⟩
def PcB.mono{t u p}(h:PcB t p)(b:t<=u):PcB u p:=⟨h.s,h.i,h.o,λl a=>by have:=h.ii l a;omega,h.oo⟩
def PcB.of{p}(h:qaA p):PcB 0 p:=by
 obtain⟨-, -,i,k,c,d,e,m,f,g⟩:=h;refine⟨c,d,e,λl b=>?_,λl b=>?_⟩
 .obtain⟨j,a⟩:=List.mem_iff_getElem?.1 b;have:=qg8 (f j l (List.getElem?_eq_some_iff.1 a).1 a) wa;omega
 .obtain⟨j,a⟩:=List.mem_iff_getElem?.1 b
  grind
def PcB.zero:PcB 0 zPc:=⟨by simp[zPc],by simp[zPc],by simp[zPc],by simp[zPc],by simp[zPc]⟩
theorem PcB.pcF{N ls T h}(f:qdz N ls T h):PcB 0 (pcF h):=by
 obtain⟨n,j,b,s,f⟩:=HF.of f;exact⟨by have:=f.out5;simpa[NO.pcF] using this,by have:=f.in5;simpa[NO.pcF] using this,by simp[NO.pcF],λl a=>by simp_all[NO.pcF],λl a=>by simp[NO.pcF] at a⟩
def PcB.pcL{N ls T h}(f:qdz N ls T h):PcB 0 (pcL h):=by
 obtain⟨n,j,b,s,f⟩:=HF.of f;exact⟨by have:=f.out5;simpa[NO.pcL] using this,f.in5,f.out5,λl a=>by have:=qg8 (f.ris l a) wa;omega,λl a=>(f.lets l a).1⟩
structure NOk(N:Int)(ls:List (Int × Int))(T:List Nd)(t:Int)(x:No):Prop where
 host:qdz N ls T x.h
 st:x.h.steps<=t
 gm:PcB t x.m.p
 m0:0<=x.m.epoch/\x.m.epoch<=200
 mo:x.m.opn.length=x.m.p.inn.length
 ml:x.m.epoch≠0->x.m.opn.length=x.h.inn.length/\x.m.p.node=x.h.node
 gu:PcB t x.u.p
 u0:0<=x.u.epoch/\x.u.epoch<=200
 un:x.u.epoch≠0->x.u.p.node=x.h.node
 tw:0<=x.t.wait/\x.t.wait<=5
 te:0<=x.t.epoch/\x.t.epoch<=200
 tk:(x.t.kids.length:Int)<=t
 got: ∀p∈x.got,qaA p
 gr:UpN x.got
 hd:0<=x.heard/\x.heard<=t
 td:0<=x.told/\x.told<=x.t.epoch
 sn:x.seen.length<=6
def qsE{l}(h:UpN l)(hp: ∀p∈l,qaA p):l.length<=6:=by
 have f:(l.map λp=>p.node.toNat).Nodup:=by
  rw[List.nodup_iff_pairwise_ne,List.pairwise_map];refine List.Pairwise.imp_of_mem (λ{a b} c d e=>?_) h;have c:=(hp a c).1;omega
 have:=qlS 6 _ f (λn g=>by
  obtain⟨p,e,rfl⟩:=List.mem_map.1 g;have:=(hp p e).1;omega)
 grind
section
variable{N:Int}{ls:List (Int × Int)}{T:List Nd}{t:Int}{x:No}
theorem NOk.mono(h:NOk N ls T t x){u}(a:t<=u):NOk N ls T u x:=
 ⟨h.host,by have:=h.st;omega,h.gm.mono a,h.m0,h.mo,h.ml,h.gu.mono a,h.u0,h.un,h.tw,h.te,by have:=h.tk;omega,h.got,h.gr,by have:=h.hd;omega,h.td,h.sn⟩
theorem NOk.new{h}(a:qdz N ls T h)(h0:h.steps=0):NOk N ls T 0 (newN h):=
 ⟨a,by simp[newN,h0],PcB.zero,by simp[newN,zMk],wv,by simp[newN,zMk],PcB.zero,by simp[newN,zHu],by simp[newN,zHu],by simp[newN,zTr],by simp[newN,zTr],by simp[newN,zTr],
  by simp[newN],by simp[newN,UpN],by simp[newN],by simp[newN,zTr],by simp[newN]⟩
theorem NOk.got6(h:NOk N ls T t x):x.got.length<=6:=qsE h.gr h.got
theorem mrg_cases(a b):(mrg a b).2=4/\(mrg a b).1= []\/(mrg a b).2=0/\(mrg a b).1.Perm (a++b)/\UpN (mrg a b).1:=by
 unfold mrg;cases h:qg2 Pc.node a b with
 | none=>simp
 | some q=>exact .inr ⟨rfl,(qfA Pc.node).1 h⟩
theorem NOk.setTold(h:NOk N ls T t x):NOk N ls T t (setTold x x.t.epoch):=
 ⟨h.host,h.st,h.gm,h.m0,h.mo,h.ml,h.gu,h.u0,h.un,h.tw,h.te,h.tk,h.got,h.gr,h.hd,⟨h.te.1,Int.le_refl _⟩,h.sn⟩
theorem NOk.flood{d}(h:NOk N ls T t d.x)(ff e):NOk N ls T t (floodN ls ff d e).x:=
 ⟨h.host,h.st,h.gm,h.m0,h.mo,h.ml,h.gu,h.u0,h.un,h.tw,h.te,h.tk,λp a=>by simp[floodN] at a,by simp[floodN,UpN],⟨by simp[floodN],by have:=h.hd;simp[floodN];omega⟩,h.td,h.sn⟩
theorem NOk.tell{d}(h:NOk N ls T t d.x)(ff)(a:(qaz ls ff d).e=0):NOk N ls T t (qaz ls ff d).x:=by
 unfold qaz at a ⊢;split
 .rename_i c;rw[if_pos c] at a;split
  .rename_i b;rw[if_pos b] at a;exact absurd a b
  .split<;>exact h.setTold
 omega
theorem NOk.begin_(h:NOk N ls T t x){e}(b:1<=e/\e<=200)(a:0<=t):NOk N ls T t ⟨x.h,qa8 x.h e,x.u,x.t,x.got,x.heard,x.told,x.seen⟩:=
 ⟨h.host,h.st,(PcB.pcF h.host).mono a,⟨by simp[qa8];omega,by simp[qa8];omega⟩,by simp[qa8,pcF],λ_=>⟨by simp[qa8],rfl⟩,h.gu,h.u0,h.un,h.tw,h.te,h.tk,h.got,h.gr,h.hd,h.td,h.sn⟩
theorem NOk.mark(h:NOk N ls T t x){e}(c:1<=e/\e<=200)(b:0<=t)(a):NOk N ls T t ⟨x.h,(qaZ x.m x.h e a).1,x.u,x.t,x.got,x.heard,x.told,x.seen⟩:=by
 unfold qaZ;split
 .omega
 split
 .exact⟨h.host,h.st,h.gm,h.m0,by simp;exact h.mo,λq=>by simp;exact h.ml q,h.gu,h.u0,h.un,h.tw,h.te,h.tk,h.got,h.gr,h.hd,h.td,h.sn⟩
 .exact⟨h.host,h.st,(PcB.pcF h.host).mono b,⟨wg,wg⟩,by simp[pcF],λ_=>⟨wb,rfl⟩,h.gu,h.u0,h.un,h.tw,h.te,h.tk,h.got,h.gr,h.hd,h.td,h.sn⟩
theorem NOk.turn(h:NOk N ls T t x){e}(a:e<=200)(b:0<=t):NOk N ls T t ⟨x.h,x.m,(qaW x.u x.h e).1,x.t,x.got,x.heard,x.told,x.seen⟩:=by
 unfold qaW;split
 .omega
 .have:=h.u0;exact⟨h.host,h.st,h.gm,h.m0,h.mo,h.ml,(PcB.pcL h.host).mono b,⟨wg,a⟩,λ_=>rfl,h.tw,h.te,h.tk,h.got,h.gr,h.hd,h.td,h.sn⟩
theorem NOk.tree(h:NOk N ls T t x){t'}(a:0<=t'.wait/\t'.wait<=5)(b:0<=t'.epoch/\t'.epoch<=200)(c:(t'.kids.length)<=t)(d:x.told<=t'.epoch):NOk N ls T t ⟨x.h,x.m,x.u,t',x.got,x.heard,x.told,x.seen⟩:=
 ⟨h.host,h.st,h.gm,h.m0,h.mo,h.ml,h.gu,h.u0,h.un,a,b,c,h.got,h.gr,h.hd,⟨h.td.1,d⟩,h.sn⟩
theorem NOk.withH(h:NOk N ls T t x){h'}(H:qdz N ls T h')(a:h'.node=x.h.node)(b:h'.steps<=t+1):NOk N ls T (t+1) ⟨h',x.m,x.u,x.t,x.got,x.heard,x.told,x.seen⟩:=by
 have k:=h.mono (u:=t+1) wa;obtain⟨n,j,g,i,f⟩:=HF.of h.host;obtain⟨l,m,c,s,d⟩:=HF.of H;have e:h'.inn.length=x.h.inn.length:=by rw[f.inl,d.inl,a]
 exact⟨H,b,k.gm,k.m0,k.mo,λq=>⟨by rw[e];exact(k.ml q).1,by rw[a];exact(k.ml q).2⟩,k.gu,k.u0,λq=>by rw[a];exact k.un q,k.tw,k.te,k.tk,k.got,k.gr,k.hd,k.td,k.sn⟩
theorem NOk.appM(h:NOk N ls T t x)(b:PcB (t - 1) x.m.p)(f:1<=t)(a m):NOk N ls T t ⟨x.h,appM x.m a m,x.u,x.t,x.got,x.heard,x.told,x.seen⟩:=by
 unfold NO.appM;split
 .omega
 .have e:a.toNat < x.m.p.inn.length:=by
   have:=h.mo;omega
  refine⟨h.host,h.st,⟨b.s,by simp;exact b.i,b.o,λl d=>?_,b.oo⟩,h.m0,by simp;exact h.mo,h.ml,h.gu,h.u0,h.un,h.tw,h.te,h.tk,h.got,h.gr,h.hd,h.td,h.sn⟩;rcases Kc d with d | rfl
  .have:=b.ii l d;omega
  .have:=b.ii _ (List.getElem_mem e)
   grind
theorem qiG{st h y m}(a:(takeH ls st h y m).2=0):(takeH ls st h y m).1.node=h.node:=by grind[takeH]
theorem qoO{st h k}(a:(pickH ls st h k).2.2=0):(pickH ls st h k).1.node=h.node:=by rcases pickH_cases (ls:=ls) (st:=st) (h:=h) (k:=k) with ⟨e,b,c⟩ | ⟨p,o,s,f,d,e⟩<;>simp_all
theorem NOk.hf(h:NOk N ls T t x): ∃n j a,HF N ls T x.h n j a (stOf T x.h):=by
 obtain⟨n,j,a,s,f⟩:=HF.of h.host;have:stOf T x.h=s:=by
  unfold stOf;rw[f.hn,Kg,f.hx,Option.getD_some,f.hj,Kg,f.hq,Option.getD_some]
 grind
theorem NOk.outs5(h:NOk N ls T t x):(outs x.h.node 0 ls).length<=5:=by
 obtain⟨n,j,a,f⟩:=h.hf;rw[<-f.outl];exact f.out5
theorem NOk.hear(h:NOk N ls T t x)(W:0<=t)(X:t<=1000)(ff:Bool)(link:Int)(f:Fm)(a:(hearN ls ff (stOf T x.h) x link f).e=0):NOk N ls T (t+1) (hearN ls ff (stOf T x.h) x link f).x:=by
 unfold hearN at a ⊢;split
 .rename_i c;rw[if_pos c] at a;cases a
 rename_i c;rw[if_neg c] at a;have r:FrP f:=Classical.byContradiction λq=>c (.inr q)
 have h5:=h.outs5;have b:=h.mono (u:=t+1) wa;split
 .rename_i s;rw[if_pos s] at a;unfold appN at a ⊢;split
  .rename_i d;rw[if_pos d] at a;exact absurd a d
  rename_i d;obtain⟨n,j,nd,g⟩:=h.hf;have K:=h.st;rcases g.take wa link f.m with e | ⟨h',e1,L,v⟩
  .rw[e] at d;exact absurd wh d
  have F:=qiG (ls:=ls) (st:=stOf T x.h) (h:=x.h) (y:=link) (m:=f.m) (by rw[v]);have A:(0<=f.epoch/\f.epoch<=200):=by
   rcases r with q | q | q | q
   .omega
   .exact q.2.2.1
   .omega
   .omega
  have w:=h.withH (h':=(takeH ls (stOf T x.h) x.h link f.m).1) (by rw[v];exact L) F (by rw[v];simp only;omega);cases ff
  .have B:=(b.turn (e:=f.epoch) wa wa);simp only[Bool.false_eq_true,if_false];exact⟨w.host,w.st,w.gm,w.m0,w.mo,w.ml,B.gu,B.u0,λq=>by rw[F];exact B.un q,w.tw,w.te,w.tk,w.got,w.gr,w.hd,w.td,w.sn⟩
  .simp only[if_true];exact w.appM (by rw[show t+1 - 1=t by omega];exact h.gm) wa _ _
 rename_i s;rw[if_neg s] at a;split
 .rename_i C;rw[if_pos C] at a;have A:1<=f.epoch/\f.epoch<=200:=by
   rcases r with q | q | q | q
   .omega
   .omega
   .exact q.2.1.2.1
   .omega
  unfold floodedN at a ⊢;split
  .rename_i d;rw[if_pos d] at a;cases a
  rename_i d;rw[if_neg d] at a;split
  .rename_i i;rw[if_pos i] at a;cases a
  rename_i i;rw[if_neg i] at a;have G:NOk N ls T (t+1) ⟨x.h,if ff then(qaZ x.m x.h f.epoch (indexL link 0 (ins x.h.node 0 ls))).1 else x.m,if ff then x.u else(qaW x.u x.h f.epoch).1,x.t,x.got,x.heard,x.told,x.seen⟩:=by
   cases ff
   .exact b.turn A.2 wa
   .exact b.mark A wa _
  split
  .rename_i k;rw[if_pos k] at a;exact NOk.tell G ff a
  .rename_i k;rw[if_neg k] at a;have o:=b.td;refine NOk.tell (NOk.flood ?_ ff _) ff a;refine G.tree ?_ ?_ ?_ ?_
   .unfold qcs;rw[if_neg k];simp only;split<;>omega
   .unfold qcs;rw[if_neg k];simp only;omega
   .unfold qcs;rw[if_neg k];simp;omega
   .unfold qcs;rw[if_neg k];simp only;omega
 rename_i C;rw[if_neg C] at a;split
 .rename_i D;rw[if_pos D] at a;unfold repliedN at a ⊢;split
  .rename_i d;rw[if_pos d] at a;exact absurd a d
  rename_i d;rw[if_neg d] at a;refine NOk.tell ?_ ff a;have q: ¬(x.t.epoch≠f.epoch\/x.t.wait < 1):=λq=>d (by unfold replyT;rw[if_pos q];decide)
  have H: ¬x.t.wait < 1:=λz=>q (.inr z)
  have M:=h.tw;have O:=h.tk;have o:=h.td;refine b.tree ?_ ?_ ?_ ?_
  .unfold replyT;rw[if_neg q];simp only;omega
  .unfold replyT;rw[if_neg q];exact h.te
  .unfold replyT;rw[if_neg q];simp only;split
   .simp only[Kf,List.length_singleton];omega
   .omega
  .unfold replyT;rw[if_neg q];exact o.2
 rename_i D;rw[if_neg D] at a;split
 .rename_i I;rw[if_pos I] at a;unfold reportedN at a ⊢;split
  .rename_i d;rw[if_pos d] at a;cases a
  rename_i d;rw[if_neg d] at a;split
  .rename_i i;rw[if_pos i] at a;exact absurd a i
  rename_i i;rw[if_neg i] at a;refine NOk.tell ?_ ff a;have P: ∀p∈f.ps,qaA p:=by
   rcases r with q | q | q | q
   .omega
   .omega
   .omega
   .exact q.2.2.2
  rcases mrg_cases x.got f.ps with ⟨q,_⟩ | ⟨_,H,Q⟩
  .rw[q] at i;exact absurd wh i
  have R:=h.hd;exact⟨b.host,b.st,b.gm,b.m0,b.mo,b.ml,b.gu,b.u0,b.un,b.tw,b.te,b.tk,λp E=>by
   rcases List.mem_append.1 (H.mem_iff.1 E) with z | z
   .exact h.got p z
   .exact P p z,Q,⟨wc,wc⟩,b.td,b.sn⟩
 rename_i I;have S:qbm f:=by
  rcases r with q | q | q | q
  .exact q.2
  .omega
  .omega
  .omega
 refine⟨b.host,b.st,b.gm,b.m0,b.mo,b.ml,b.gu,b.u0,b.un,b.tw,b.te,b.tk,b.got,b.gr,b.hd,b.td,?_⟩;have l:=h.sn;have k7:=S.2.2.2.1;unfold probedN hearP;simp only;split
 .exact l
 .split
  .exact l
  .split
   .exact l
   .simp only[Kd,Kf,List.length_replicate];omega
theorem NOk.start(h:NOk N ls T t x)(d:0<=t)(ff e)(a:(startN ls ff x e).e=0):NOk N ls T t (startN ls ff x e).x:=by
 unfold startN at a ⊢;split
 .rename_i c;rw[if_pos c] at a;cases a
 rename_i c;rw[if_neg c] at a;have b:1<=e/\e<=200/\x.t.epoch < e:=wa
 have f:NOk N ls T t ⟨x.h,if ff then qa8 x.h e else x.m,if ff then x.u else(qaW x.u x.h e).1,x.t,x.got,x.heard,x.told,x.seen⟩:=by
  cases ff
  .exact h.turn b.2.1 d
  .exact h.begin_ ⟨b.1,b.2.1⟩ d
 have i:=h.outs5;have g:=h.td;refine NOk.tell (NOk.flood ?_ ff _) ff a;refine f.tree ?_ ?_ ?_ ?_<;>grind[qgB]
theorem NOk.pick(h:NOk N ls T t x)(m:t<=1000)(ff k)(a:(pickN ls ff (stOf T x.h) x k).e=0):NOk N ls T (t+1) (pickN ls ff (stOf T x.h) x k).x:=by
 unfold pickN at a ⊢;split
 .rename_i c;rw[if_pos c] at a;exact absurd a c
 obtain⟨n,j,o,g⟩:=h.hf;have i:=h.st;rcases g.pick wa k with ⟨e,d,f⟩ | ⟨p,S,d,f,l,b⟩
 .grind
 refine h.withH wg (qoO (by rw[b])) wg
end
end Go.Proofs.NO
/- A node floods; what frames do to it. -/
namespace Go.Proofs.NO
open Go Go.Idl Go.Proofs Go.GP Go.Proofs.Tryz
set_option maxHeartbeats 0
set_option maxRecDepth 100000
def qoi(N:Int)(ls:List (Int × Int))(T:List Nd)(ff:Bool)(x:No)(n:Nat)(o:List Ou)(ps:List Pc)(path:List Int)(link:Int)(f:Fm)(ho:o.length=n)(hl:ls.length<=1000000)(hn:n+(outs x.h.node 0 ls).length<=900)(e:Int):
  PG prog 194 [.ptr 0 0 0 0,sci .i64 e] [.arr 45 0 [wRow N ls T ff x (.ref 1 n 0 n) ps path link f], .arr 10 n (ir eOu o)] 0 (.tup [])
   [(0, .arr 45 0 [wRow N ls T ff ⟨x.h,x.m,x.u,x.t, [],0,x.told,x.seen⟩ (.ref 1 (n+(outs x.h.node 0 ls).length) 0 (n+(outs x.h.node 0 ls).length)) ps path link f]),
    (1, .arr 10 (n+(outs x.h.node 0 ls).length) (ir eOu (o++(outs x.h.node 0 ls).map (λl=>(⟨l,ctl (kindN ff) e⟩:Ou)))))]:=by
 have hO:=λx' h=>qgy N ls T ff x' n o ps path link f h
 have hO2:=hO ⟨x.h,x.m,x.u,x.t, [],0,x.told,x.seen⟩ hl;clear hO;simp only at hO2;generalize outs x.h.node 0 ls=L at *;refine zAh func194 2 λhs=>?_;refine qbf 200 [] ⟨29, [(0, .ptr 0 0 0 0),(1,sci .i64 e),(14, .ptr 0 0 0 0)], [],2, [(0, .arr 45 0 [wRow N ls T ff ⟨x.h,x.m,x.u,x.t, [],0,x.told,x.seen⟩ (.ref 1 n 0 n) ps path link f]),(1, .arr 10 n (ir eOu o))]⟩ trivial ?_ ?_
 .constructor<;>exact zU
 refine zV ?_;(refine at_g 200 ?_;refine zW ?_;refine callG_of [0,1] (hO2) zU ?_;refine zV ?_);have t0:(L.take 0).map (λl=>(⟨l,ctl (kindN ff) e⟩:Ou))= []:=by rw[List.take_zero];rfl
 refine qac 200 200 (λi:Nat=>i<=L.length)
  (λi=>⟨29, [(0, .ptr 0 0 0 0),(1,sci .i64 e),(15,lI L),(16,sci .i64 L.length),(17,sci .i64 i)], [],2, [(0, .arr 45 0 [wRow N ls T ff ⟨x.h,x.m,x.u,x.t, [],0,x.told,x.seen⟩ (.ref 1 (n+i) 0 (n+i)) ps path link f]),(1, .arr 10 (n+i) (ir eOu (o++(L.take i).map (λl=>(⟨l,ctl (kindN ff) e⟩:Ou)))))]⟩) (λi=>L.length - i) (0) [] ?_ ?_ ?_
 .simp
 .exact zc (zQ @Int.natCast_zero (zQ @List.take_of_length_le.{0} (zQ @Ke.{0} (zQ t0 (zQ @List.append_nil.{0} @Nat.add_zero)))))
 .rintro i hi;refine zV ?_;by_cases li:i < L.length
  .have hs:=qcy N ls T ff ⟨x.h,x.m,x.u,x.t, [],0,x.told,x.seen⟩ (n+i) (o++(L.take i).map (λl=>(⟨l,ctl (kindN ff) e⟩:Ou))) ps path link f wm wa L[i] (ctl (kindN ff) e);have hk:=qjv N ls T ff ⟨x.h,x.m,x.u,x.t, [],0,x.told,x.seen⟩ (n+i) (o++(L.take i).map (λl=>(⟨l,ctl (kindN ff) e⟩:Ou))) ps path link f;have hsn:o++(L.take i).map (λl=>(⟨l,ctl (kindN ff) e⟩:Ou))++ [⟨L[i],ctl (kindN ff) e⟩]=o++(L.take (i+1)).map (λl=>(⟨l,ctl (kindN ff) e⟩:Ou)):=by
    rw[List.take_succ_eq_append_getElem li,List.map_append,Ke];rfl
   rw[hsn] at hs;clear hsn;generalize o++(L.take i).map (λl=>(⟨l,ctl (kindN ff) e⟩:Ou))=A at *;generalize hB:o++(L.take (i+1)).map (λl=>(⟨l,ctl (kindN ff) e⟩:Ou))=B at hs;simp only[ctl] at hs;(try simp(maxSteps:=2000000) (disch:=omega) only[go_sem,simprocAttr,zD,zE,eI]);refine zJ [0,1] hk ?_;(refine at_g 200 ?_;refine zW ?_;refine callG_of [0,1] (hs) zU ?_;refine zV ?_);refine⟨i+1, [],wd,?_,?_⟩
   ·(try simp only[]);omega
   .exact zc (zQ @Nat.add_assoc (zQ hB @Ke.{0}))
  .obtain rfl:i=L.length:=wa
   rw[List.take_length];exact zU
end Go.Proofs.NO
