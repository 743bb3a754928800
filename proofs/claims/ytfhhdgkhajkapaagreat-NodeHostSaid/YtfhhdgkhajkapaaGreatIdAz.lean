/- Facts leant on. -/
import Derived.WalkKit
import Derived.Orders
import Derived.Laws.Externs
import Derived.Laws.StructEq
import Derived.ChangeKeysEq
import Derived.MapKept
import Derived.Laws.Pointers
import Derived.Laws.BytesString
set_option linter.all false
namespace Go
theorem wa {p:Prop} (h:p:=by omega):p:=h
theorem wb {p:Prop} (h:p:=by simp):p:=h
theorem wc {p:Prop} (h:p:=by simp only;omega):p:=h
theorem wd {p:Prop} (h:p:=by first | assumption | omega):p:=h
theorem we {p:Prop} (h:p:=by kernel_rfl):p:=h
theorem wg {p:Prop} (h:p:=by grind):p:=h
theorem wh {p:Prop} (h:p:=by decide):p:=h
theorem wi {p:Prop} (h:p:=by first | rfl | (split<;>rfl)):p:=h
theorem wj {p:Prop} (h:p:=by simp [geAll,qal,qal.nin]):p:=h
theorem wl {p:Prop} (h:p:=by simp [j,Ka,Call.operands]):p:=h
theorem wm {p:Prop} (h:p:=by simp;omega):p:=h
theorem wn {p:Prop} (h:p:=by simp_all):p:=h
theorem wo {p:Prop} (h:p:=by simp (maxSteps:=2000000) (disch:=omega) only [go_sem,simprocAttr,if_pos,if_neg,w64,beqT,beqF,bneT,bneF,qai,qag,decide_eq_true,decide_eq_false,cmpF]):p:=h
theorem wq {p:Prop} (h:p:=by cases dst<;>simp_all [dOk,qaC]):p:=h
theorem wr {p:Prop} (h:p:=by simp [putβ]):p:=h
theorem ws {p:Prop} (h:p:=by simp [i,Ka]):p:=h
theorem wt {p:Prop} (h:p:=by unfold maxLen;omega):p:=h
theorem wu {p:Prop} (h:p:=by cases h):p:=h
theorem wv {p:Prop} (h:p:=by rfl):p:=h
theorem ww {p:Prop} (h:p:=by intro h;cases h):p:=h
theorem wx {p:Prop} (h:p:=by simp [d,Ka]):p:=h
theorem wy {p:Prop} (h:p:=by rw [h]):p:=h
theorem wz {p:Prop} (h:p:=by simpa using a):p:=h
theorem wA {p:Prop} (h:p:=by simp [ir]):p:=h
theorem wB {p:Prop} (h:p:=by simp only [C] at s;split at s;cases s;exact s):p:=h
theorem wC {p:Prop} (h:p:=by rw [Kd];omega):p:=h
theorem wD {p:Prop} (h:p:=by rw [h3];simp;omega):p:=h
theorem wE {p:Prop} (h:p:=by simpa using h):p:=h
theorem wF {p:Prop} (h:p:=by rw [hc];exact beq_self_eq_true _):p:=h
theorem wG {p:Prop} (h:p:=by rcases q with q | q | q | q<;>(have:=q.1;simp only at this;omega)):p:=h
theorem wH {p:Prop} (h:p:=by simp [ir];omega):p:=h
theorem wI {p:Prop} (h:p:=by rw [hd];simp only [Ka];omega):p:=h
theorem wJ {p:Prop} (h:p:=by rw [d];simp [Ka]):p:=h
theorem wK {p:Prop} (h:p:=by apply KE;simpa using M):p:=h
theorem wL {p:Prop} (h:p:=by simp [IBlk.len];omega):p:=h
theorem wM {p:Prop} (h:p:=by simp only [IBlk.len];omega):p:=h
theorem wN {p:Prop} (h:p:=by induction l<;>grind [look]):p:=h
theorem wO {p:Prop} (h:p:=by rw [qbb];omega):p:=h
theorem wP {p:Prop} (h:p:=by have:=findL_mem (s:=0).2 hin;omega):p:=h
theorem wQ {p:Prop} (h:p:=by simp [IBlk.len]):p:=h
theorem wR {p:Prop} (h:p:=by simpa [outs,hc] using h3):p:=h
theorem wS {p:Prop} (h:p:=by rw [beq_eq_false_iff_ne];exact hc):p:=h
theorem wT {p:Prop} (h:p:=by rw [List.take_take,Nat.min_self]):p:=h
theorem wU {p:Prop} (h:p:=by simp [qal,qal.nin]):p:=h
theorem wV {p:Prop} (h:p:=by rw [l.w];exact(Array.getElem?_eq_some_iff.1 q1).1):p:=h
theorem wW {p:Prop} (h:p:=by simpa [ins,hc] using h3):p:=h
theorem wX {p:Prop} (h:p:=by simpa using hc):p:=h
theorem wY {p:Prop} (h:p:=by apply KE;simpa using N):p:=h
theorem wZ {p:Prop} (h:p:=by simp [ntmps181]):p:=h
theorem w0 {p:Prop} (h:p:=by simp [c,Ka]):p:=h
theorem w7 {p:Prop} (h:p:=by simp [u,Ka]):p:=h
theorem w8 {p:Prop} (h:p:=by simpa using E):p:=h
theorem w9 {p:Prop} (h:p:=by simpa using mlook_G K):p:=h
theorem vb {p:Prop} (h:p:=by simp only [Kd,look,if_true]):p:=h
theorem vd {p:Prop} (h:p:=by have:=hk.got6;omega):p:=h
theorem ve {p:Prop} (h:p:=by rw [Kf,Kv]):p:=h
theorem vg {p:Prop} (h:p:=by simpa using B):p:=h
theorem vi {p:Prop} (h:p:=by simp [IBlk.len,qa7]):p:=h
theorem vj {p:Prop} (h:p:=by simpa only [noB] using h):p:=h
theorem vk {p:Prop} (h:p:=by simp [f,Ka]):p:=h
theorem vn {p:Prop} (h:p:=by rw [KM,KU];omega):p:=h
theorem vo {p:Prop} (h:p:=by simp [p,Ka]):p:=h
theorem vp {p:Prop} (h:p:=by cases o.dst<;>rfl):p:=h
theorem vq {p:Prop} (h:p:=by subst q;rfl):p:=h
theorem vr {p:Prop} (h:p:=by rw [Kb];exact h):p:=h
theorem vt {p:Prop} (h:p:=by simp [IBlk.isMp]):p:=h
theorem vu {p:Prop} (h:p:=by rw [htl];omega):p:=h
theorem vv {p:Prop} (h:p:=by rw [hd];exact hy):p:=h
end Go
open Go.Op renaming operands->Ka,equal->Kb,equalIn->Kc,floatArith->Kd,bytesLess->Ke,maxDepth->Kf,eqGuardIn->Kg,intArith->Kh,intBits->Ki,stringOp->Kj,eqFields->Kk,eqItems->Kl
open Go.Sem renaming run_bind->Km,run_pure->Kn,run->Ko
open Go.Result renaming andThen_ok->Kp
open Nat renaming le_refl->Kq,add_mul->Kr,mul_le_mul_right->Ks,min->Kt,mul_comm->Ku,zero_le->Kv,zero_add->Kw,mod_lt->Kx,add_zero->Ky,lt_or_ge->Kz,mul_add_mod->KA,mod_eq_of_lt->KB,min_eq_left->KC,lt_of_lt_of_le->KD,eq_zero_or_pos->KE,one_mul->KF,mul_one->KG,le_trans->KH,le_of_lt->KI,div_lt_of_lt_mul->KJ,lt_of_le_of_lt->KK,reducePow->KL
open List renaming length_take->KM,getElem?_append->KN,length_append->KO,getElem?_toArray->KP,replicate->KQ,getElem?_take->KR,getElem?_eq_getElem->KS,getElem?_drop->KT,length_drop->KU,size_toArray->KV,mem_of_mem_take->KW,mem_of_getElem?->KX,eq_nil_of_length_eq_zero->KY,range->KZ,map_toArray->K0,getElem?_eq_none->K1,mem_of_mem_drop->K3,append_assoc->K4,getElem?_cons_zero->K5,getElem?_map->K6,mem_cons_of_mem->K7,getElem?_set->K8,getElem?_cons_succ->K9,mem_append->Ja,replicate_succ->Jb,drop_drop->Jc,getElem_mem->Jd,eq_of_mem_replicate->Je,getElem?_replicate->Jf,map_cons->Jg,map_nil->Jh,flatten_cons->Ji,getElem_of_mem->Jj,length_map->Jk,mem_or_eq_of_mem_set->Jl,length_nil->Jm,range'_succ->Jn,forIn_cons->Jo
open Option renaming map_some->Jp,map_eq_some_iff->Jq,bind_eq_some_iff->Jr,bind_some->Js,getD_some->Jt
open Go.Builtin renaming firstCells->Ju,zeroCells->Jv,append_->Jw,len_->Jx,lenOf->Jy,clear_->Jz,copy_->JA,max2->JB,min2->JC,nextslicecap->JD
open Array renaming getElem?_toList->JE,length_toList->JF,getElem?_append->JG,size_append->JH,map->JI,ext'->JJ,toList_append->JK,getElem?_modify->JL,getElem?_eq_getElem->JM,empty_append->JN
open Classical renaming choose_spec->JO,choose->JP
open Bool renaming false_eq_true->JQ,not_false->JR,and_eq_true->JS
open Int renaming toNat_natCast->JT,eq_ofNat_of_zero_le->JU
open Go.World renaming alloc_eq->JV,size_drew->JW,cell?_of_block->JX
open UInt8 renaming ofNat->JY
open Option renaming none->U,some->V
open Bool renaming true->Y,false->Z
namespace Go.Idl
inductive PV where
 | sc (v:Value)
 | emp
 | imm (sz:Nat) (rows:List (List PV))
 | rp (cells:List PV)
 | nan (k:FloatKind)
 deriving Inhabited
inductive IV where
 | p (x:PV)
 | ref (b g off len:Nat)
 | ptr (b g r j:Nat)
 | mp (b:Nat)
 | clo (fn:Fn) (first cap:List IV)
 | agg (cs:List IV)
 | tup (cs:List IV)
 | dead
 deriving Inhabited
inductive OK where
 | lp (n:Nat) (ts ps:List Nat) (assign body:Code) (pend:Option Code)
 | it (since:Nat) (seen:List Nat) (stepped:Nat)
 | df
 deriving Inhabited
inductive IBlk where
 | arr (sz gen:Nat) (rows:List (List IV))
 | mp (es:List (Value × IV))
 | ob (k:OK) (vs:List IV)
 deriving Inhabited
def IBlk.sz:IBlk->Nat
 | .arr s _ _=>s
 | .mp _=>0
 | .ob .. =>0
def IBlk.gen:IBlk->Nat
 | .arr _ g _=>g
 | .mp _=>0
 | .ob .. =>0
def IBlk.len:IBlk->Nat
 | .arr _ _ r=>r.length
 | .mp _=>0
 | .ob .. =>0
def IBlk.isMp:IBlk->Nat
 | .arr .. =>0
 | .mp _=>1
 | .ob (.lp ..) _=>2
 | .ob (.it ..) _=>3
 | .ob .df _=>4
def IBlk.gen_mp{b:IBlk}(h:b.isMp≠0):b.gen=0:=by cases b<;>simp_all[IBlk.isMp,IBlk.gen]
def hnd:Nat->Nat->Value
 | 1,c=> .map (V c)
 | 2,c=> .func (.yield c) #[] #[]
 | _,c=> .pointer (V ⟨c,0,U⟩)
def qr7(k c):(hnd k c).oneCell'=Y:=by
 unfold hnd;split<;>rfl
structure AH where
 A:Nat->Prop
 G:Nat->Option IBlk
 O:Nat->Prop:=λ_=>False
abbrev Bet:=Nat->Option (Nat × Nat × Nat)
structure Mem where
 w:World
 H:AH
 β:Bet
def Mem.own(M:Mem)(c:Nat):Prop:=M.H.O c\/ ∃b a o n,M.H.G b=V a/\M.β b=V (c,o,n)
inductive PRel(w:World)(own:Nat->Prop):PV->Value->Prop where
 | sc (v:Value):PRel w own (.sc v) v
 | emp (a:Option Addr):PRel w own .emp (.slice a 0 0)
 | imm (sz:Nat) (rows:List (List PV)) (a:Option Addr) (cap c o:Nat) (f:Nat->Nat->Value)
   (hl:rows.length<=cap) (hm:cap<=maxLen)
   (ha:0 < rows.length->a=V ⟨c,o,U⟩/\c < w.heap.size/\ ¬own c)
   (hs: ∀(i:Nat) (row:List PV),rows[i]? =V row->row.length=sz)
   (hc: ∀(i:Nat) (row:List PV) (j:Nat) (x:PV),rows[i]? =V row->row[j]? =V x->
    w.cell? ⟨c,o+(i * sz+j),U⟩=V (f i j)/\(f i j).oneCell'=Y)
   (hr: ∀(i:Nat) (row:List PV) (j:Nat) (x:PV),rows[i]? =V row->row[j]? =V x->PRel w own x (f i j)):
   PRel w own (.imm sz rows) (.slice a rows.length cap)
 | rp (cells:List PV) (c o:Nat) (f:Nat->Value) (ha:c < w.heap.size/\ ¬own c)
   (hc: ∀(j:Nat) (x:PV),cells[j]? =V x->w.cell? ⟨c,o+j,U⟩=V (f j)/\(f j).oneCell'=Y)
   (hr: ∀(j:Nat) (x:PV),cells[j]? =V x->PRel w own x (f j)):
   PRel w own (.rp cells) (.pointer (V ⟨c,o,U⟩))
 | nan (k:FloatKind) (b:Nat) (h:(k.format.read b).isNaN=Y):PRel w own (.nan k) (.float k b)
def PRel.step{w w' n g}(C:w.heap.size<=w'.heap.size)
  (t: ∀c,c < w.heap.size-> ¬n c->w'.heap[c]? =w.heap[c]? /\ ¬g c) {x v} (h:PRel w n x v):PRel w' g x v:=by
 induction h with
 | sc v=>exact .sc v
 | emp a=>exact .emp a
 | imm D r a u c o f E F l G p H y=>
   refine .imm D r a u c o f E F ?_ G ?_ y
   .grind
   .intro i q j x B s;have z:0 < r.length:=by
     grind
    obtain⟨e,d,A⟩:=l z;rw[JX (w:=w) (t c d A).1]
    grind
 | nan k b h=>exact .nan k b h
 | rp m c o f l p H y=>
   refine .rp m c o f ⟨KD l.1 C,(t c l.1 l.2).2⟩ (λj x s=>⟨?_,(p j x s).2⟩) y;rw[JX (w:=w) (t c l.1 l.2).1]
   grind
def qdD(x:Option (Nat × Nat × Nat))(sz l off len:Nat)(v:Value):Prop:=
 ∃a b,v= .slice a len b/\len<=b/\off+len<=l/\l<=off+b/\
  (b=0\/ ∃c o n,x=V (c,o,n)/\a=V ⟨c,o+off * sz,U⟩/\off+b<=n)
def ptrOk(x:Option (Nat × Nat × Nat))(sz r j:Nat)(v:Value):Prop:=
 ∃c o n,x=V (c,o,n)/\v= .pointer (V ⟨c,o+(r * sz+j),U⟩)
inductive VRel(M:Mem):IV->Value->Prop where
 | p (x:PV) (v:Value) (h:PRel M.w M.own x v):VRel M (.p x) v
 | ref (b g off len:Nat) (v:Value) (hA:M.H.A b) (hv: ∃a cap,v= .slice a len cap)
   (h: ∀blk,M.H.G b=V blk->g<=blk.gen/\(g=blk.gen->qdD (M.β b) blk.sz blk.len off len v)):VRel M (.ref b g off len) v
 | ptr (b g r j:Nat) (v:Value) (hA:M.H.A b) (hv: ∃c o,v= .pointer (V ⟨c,o,U⟩))
   (h: ∀blk,M.H.G b=V blk->g<=blk.gen/\(g=blk.gen->ptrOk (M.β b) blk.sz r j v)):VRel M (.ptr b g r j) v
 | mp (b:Nat) (v:Value) (hA:M.H.A b) (hv: ∃k c,v=hnd k c)
   (h: ∀blk,M.H.G b=V blk->blk.isMp≠0/\ ∃c o n,M.β b=V (c,o,n)/\v=hnd blk.isMp c):VRel M (.mp b) v
 | clo (fn:Fn) (first cap:List IV) (vf vc:List Value) (hf:vf.length=first.length) (hc:vc.length=cap.length)
   (rf: ∀(i:Nat) (x:IV) (v:Value),first[i]? =V x->vf[i]? =V v->VRel M x v)
   (rc: ∀(i:Nat) (x:IV) (v:Value),cap[i]? =V x->vc[i]? =V v->VRel M x v):
   VRel M (.clo fn first cap) (.func fn ⟨vf⟩ ⟨vc⟩)
 | agg (cs:List IV) (vs:List Value) (hl:vs.length=cs.length) (h1: ∀v∈vs,v.oneCell'=Y)
   (r: ∀(i:Nat) (x:IV) (v:Value),cs[i]? =V x->vs[i]? =V v->VRel M x v):VRel M (.agg cs) (.agg ⟨vs⟩)
 | tup (cs:List IV) (vs:List Value) (hl:vs.length=cs.length)
   (r: ∀(i:Nat) (x:IV) (v:Value),cs[i]? =V x->vs[i]? =V v->VRel M x v):VRel M (.tup cs) (.tuple ⟨vs⟩)
 | dead (v:Value):VRel M .dead v
def qbn(cs:Array Value)(o k:Nat):Prop:=o+k<=cs.size/\ ∀(j:Nat) (v:Value),j < k->cs[o+j]? =V v->v.oneCell'=Y
def qbn.all{cs k}(h:k<=cs.size)(a: ∀v∈cs.toList,v.oneCell'=Y):qbn cs 0 k:=
 ⟨wa,λj v _ b=>a v wg⟩
def qbn.sub{cs o k a b}(h:qbn cs o k)(d:o<=a)(e:a+b<=o+k):qbn cs a b:=
 ⟨by have:=h.1;omega,λj v f c=>h.2 (a - o+j) v wa wg⟩
theorem qbn.put{c o k p q vs}(h:qbn c o k)(e:p+vs.length=q)(hp:q<=c.size)(f: ∀v∈vs,v.oneCell'=Y):
  qbn (c.toList.take p++vs++c.toList.drop q).toArray o k:=by
 have g:c.toList.length=c.size:=JF;refine⟨?_,λj v d a=>?_⟩
 .have:=h.1
  grind
 .rw[KP,KN,KO] at a;have b:min p c.toList.length=p:=wa
  split at a
  .rw[KN,KM,b] at a;split at a
   .rename_i i;rw[KR,if_pos i,JE] at a;exact h.2 j v d a
   grind
  .refine h.2 j v d ?_
   grind
def ORel:OK->List Value->Obj->Prop
 | .lp n b c d e p,u,o=> ∃fn tmps D,o= .loop {state:=(match p with | none=> .ready | some _=> .done),pending:=p,fn,tmps,params:=⟨c⟩,assign:=d,body:=e,defers:=D}/\tmps.size=n/\
   b.length=u.length/\ ∀(i:Nat) (t:Nat) (v:Value),b[i]? =V t->u[i]? =V v->tmps[t]? =V v
 | .it a seen s,u,o=> ∃m,u= [.map (V m)]/\o= .mapIter (V m) a ⟨seen⟩ s
 | .df,u,o=>u= []/\o= .deferred (V [])
def BRel(M:Mem)(b:Nat):IBlk->Prop
 | .arr s _ r=>(∀d∈r,d.length=s)/\(M.β b=U->r= [])/\
   ∀c o n,M.β b=V (c,o,n)-> ∃g t,M.w.heap[c]? =V (.cells g t (0,0))/\r.length<=n/\n<=maxLen/\qbn g o (n * s)/\
    ∀(i:Nat) (d:List IV) (j:Nat) (x:IV),r[i]? =V d->d[j]? =V x->
     ∃v,g[o+(i * s+j)]? =V v/\v.oneCell'=Y/\VRel M x v
 | .mp h=> ∃c o n,M.β b=V (c,o,n)/\ ∃f a,M.w.heap[c]? =V (.map f a)/\(f.size=h.length/\a=h.length)/\
   ∀(i:Nat) (k:Value) (x:IV),h[i]? =V (k,x)-> ∃e,f[i]? =V e/\(e.key=k/\e.born=i)/\VRel M x e.val
 | .ob k l=> ∃c o n,M.β b=V (c,o,n)/\ ∃m u,M.w.heap[c]? =V m/\ORel k u m/\u.length=l.length/\
   ∀(i:Nat) (x:IV) (v:Value),l[i]? =V x->u[i]? =V v->VRel M x v
structure MRel(M:Mem):Prop where
 dom: ∀b blk,M.H.G b=V blk->M.H.A b
 blk: ∀b blk,M.H.G b=V blk->BRel M b blk
 inj: ∀b b' blk blk' c o n o' n',M.H.G b=V blk->M.H.G b'=V blk'->M.β b=V (c,o,n)->M.β b'=V (c,o',n')->b=b'
 olt: ∀c,M.H.O c->c < M.w.heap.size
 odis: ∀b blk c o n,M.H.G b=V blk->M.β b=V (c,o,n)-> ¬M.H.O c
structure qaf(M M':Mem):Prop where
 os:M'.w.os=M.w.os
 tape:M'.w.tape=M.w.tape
 output:M'.w.output=M.w.output
 size:M.w.heap.size<=M'.w.heap.size
 keep: ∀c,c < M.w.heap.size-> ¬M.own c->M'.w.heap[c]? =M.w.heap[c]? /\ ¬M'.own c
 dom: ∀b,M.H.A b->M'.H.A b
 comp: ∀b blk',M.H.A b->M'.H.G b=V blk'-> ∃blk,M.H.G b=V blk/\blk'.sz=blk.sz/\blk'.isMp=blk.isMp/\blk.gen<=blk'.gen/\
  (blk.gen=blk'.gen->M'.β b=M.β b/\blk'.len=blk.len)
 oeq:M'.H.O=M.H.O
 ofix: ∀c,M.H.O c->M'.w.heap[c]? =M.w.heap[c]?
def qaf.refl(M):qaf M M:=
 ⟨rfl,rfl,rfl,Kq _,λ_ _ h=>⟨rfl,h⟩,λ_ h=>h,λ_ b _ h=>⟨b,h,rfl,rfl,Kq _,λ_=>⟨rfl,rfl⟩⟩,rfl,λ_ _=>rfl⟩
def qaf.trans{M M' f}(h:qaf M M')(k:qaf M' f):qaf M f:=by
 refine⟨k.os.trans h.os,k.tape.trans h.tape,k.output.trans h.output,KH h.size k.size,?_,λb n=>k.dom b (h.dom b n),?_,k.oeq.trans h.oeq,λc g=>(k.ofix c (by rw[h.oeq];omega)).trans (h.ofix c g)⟩
 .intro c g v;obtain⟨l,w⟩:=h.keep c g v;obtain⟨m,x⟩:=k.keep c (KD g h.size) w
  grind
 .intro b a t n;obtain⟨d,o,p,q,r,i⟩:=k.comp b a (h.dom b t) n;obtain⟨j,s,y,z,A,u⟩:=h.comp b d t o
  grind
def VRel.step{M M'}(s:qaf M M'){x v}(h:VRel M x v):VRel M' x v:=by
 induction h with
 | p x v h=>exact .p x v (h.step s.size s.keep)
 | ref b g w y v i l h=>
   refine .ref b g w y v (s.dom b i) l λa m=>?_;obtain⟨c,d,q,n,t,k⟩:=s.comp b a i m
   grind
 | ptr b g r j v i l h=>
   refine .ptr b g r j v (s.dom b i) l λa m=>?_;obtain⟨c,d,q,n,t,k⟩:=s.comp b a i m
   grind
 | mp b v i l h=>
   refine .mp b v (s.dom b i) l λa m=>?_;obtain⟨c,d,q,n,t,k⟩:=s.comp b a i m;obtain⟨f,o⟩:=h c d;refine⟨wa,?_⟩;rw[(k (by rw[IBlk.gen_mp f,IBlk.gen_mp wa])).1,n];omega
 | clo E first z F G H I L N J K=>exact .clo E first z F G H I J K
 | agg A B C f r D=>exact .agg A B C f D
 | tup A B C r D=>exact .tup A B C D
 | dead v=>exact .dead v
def MRel.change{M M':Mem}(h:MRel M)(s:qaf M M')(b:Nat)
  (S:M'.H.A b) (B: ∀a,a≠b->M'.H.G a=M.H.G a) (g: ∀a,a≠b->M'.β a=M.β a)
  (K: ∀a d c o n,a≠b->M.H.G a=V d->M.β a=V (c,o,n)->M'.w.heap[c]? =M.w.heap[c]?)
  (T: ∀f,M'.H.G b=V f->BRel M' b f)
  (z: ∀f c o n,M'.H.G b=V f->M'.β b=V (c,o,n)-> ∀a d o' E,a≠b->M.H.G a=V d->M.β a≠V (c,o',E))
  (W: ∀f c o n,M'.H.G b=V f->M'.β b=V (c,o,n)-> ¬M.H.O c):MRel M':=by
 refine⟨?_,?_,?_,λc l=>KD (h.olt c (by rw[<-s.oeq];exact l)) s.size,λa d c o n u w L=>?_⟩
 case refine_4=>
  rw[s.oeq] at L;by_cases e:a=b
  .subst e;exact W d c o n u w L
  .rw[B a e] at u;rw[g a e] at w;exact h.odis a d c o n u w L
 .intro a d m;by_cases e:a=b
  .subst e;exact S
  .rw[B a e] at m;exact s.dom a (h.dom a d m)
 .intro a d m;by_cases e:a=b
  .subst e;exact T d m
  .have p:=m;rw[B a e] at p;have N:=h.blk a d p;cases d with
   | arr sz X R=>
     obtain⟨r1,r2,r3⟩:=N;refine⟨r1,λhn=>r2 (by rw[<-g a e];exact hn),λc o n l=>?_⟩;rw[g a e] at l;obtain⟨cs,ty,F,G,H,O,q5⟩:=r3 c o n l;refine⟨cs,ty,?_,G,H,O,λi P j x z hj=>?_⟩
     .rw[K a _ c o n e p l];exact F
     .obtain⟨v,v1,v2,v3⟩:=q5 i P j x z hj;exact⟨v,v1,v2,v3.step s⟩
   | mp es=>
     obtain⟨c,o,n,l,Q,C,F,G,H⟩:=N;refine⟨c,o,n,by rw[g a e];exact l,Q,C,by rw[K a _ c o n e p l];exact F,G,λi k x z=>?_⟩;obtain⟨en,y,t,e3⟩:=H i k x z;exact⟨en,y,t,e3.step s⟩
   | ob k vs=>
     obtain⟨c,o,n,l,ob,us,F,G,H,O⟩:=N;exact⟨c,o,n,by rw[g a e];exact l,ob,us,by rw[K a _ c o n e p l];exact F,G,H,λi x v z hv=>(O i x v z hv).step s⟩
 .intro D A q r c o n o' E u w I J;by_cases y:D=b
  .grind
  .by_cases t:A=b
   .grind
   .rw[B D y] at u;rw[g D y] at I;rw[B A t] at w;rw[g A t] at J;exact h.inj D A q r c o n o' E u w I J
def MRel.same{M}(h:MRel M){w'}(s:qaf M {M with w:=w'})
  (p: ∀c,M.own c->w'.heap[c]? =M.w.heap[c]?):MRel {M with w:=w'}:=by
 refine⟨h.dom,?_,h.inj,λc a=>KD (h.olt c a) s.size,h.odis⟩;intro b e m;have r:=h.blk b e m;cases e with
 | arr S A z=>
   obtain⟨B,C,D⟩:=r;refine⟨B,C,λc o n a=>?_⟩;obtain⟨E,F,q,f,g,t,G⟩:=D c o n a;refine⟨E,F,?_,f,g,t,λi u j x l H=>?_⟩
   .exact(p c (.inr ⟨b,_,o,n,m,a⟩)).trans q
   .obtain⟨v,I,J,K⟩:=G i u j x l H;exact⟨v,I,J,K.step s⟩
 | mp T=>
   obtain⟨c,o,n,a,y,d,q,f,g⟩:=r;refine⟨c,o,n,a,y,d,(p c (.inr ⟨b,_,o,n,m,a⟩)).trans q,f,λi k x l=>?_⟩;obtain⟨L,N,O,P⟩:=g i k x l;exact⟨L,N,O,P.step s⟩
 | ob k W=>
   obtain⟨c,o,n,a,ob,Q,q,f,g,t⟩:=r;exact⟨c,o,n,a,ob,Q,(p c (.inr ⟨b,_,o,n,m,a⟩)).trans q,f,g,λi x v l R=>(t i x v l R).step s⟩
def MRel.lt{M}(h:MRel M){c}(e:M.own c):c < M.w.heap.size:=by
 rcases e with e | ⟨b,d,o,n,j,f⟩
 .exact h.olt c e
 have g:=h.blk b d j;cases d with
 | arr u l r=>
   obtain⟨v,w,q,_⟩:=g.2.2 c o n f
   grind
 | mp x=>
   obtain⟨m,p,s,a,t,i,q,_⟩:=g
   grind
 | ob k y=>
   obtain⟨m,p,s,a,ob,z,q,_⟩:=g
   grind
def qaf.drew(M):qaf M {M with w:=M.w.drew}:=
 ⟨rfl,rfl,rfl,Kq _,λ_ _ h=>⟨rfl,h⟩,λ_ h=>h,λ_ b _ h=>⟨b,h,rfl,rfl,Kq _,λ_=>⟨rfl,rfl⟩⟩,rfl,λ_ _=>rfl⟩
def MRel.drew{M}(h:MRel M):MRel {M with w:=M.w.drew}:=h.same (.drew M) λ_ _=>rfl
def qaf.alloc{M}(c:MRel M)(o):qaf M {M with w:=M.w.alloc o}:=
 ⟨rfl,rfl,rfl,wb,λ_ a h=>⟨heap_alloc_old M.w o a,h⟩,λ_ h=>h,λ_ b _ h=>⟨b,h,rfl,rfl,Kq _,λ_=>⟨rfl,rfl⟩⟩,rfl,λ_ a=>heap_alloc_old M.w o (c.olt _ a)⟩
def MRel.alloc{M}(h:MRel M)(o):MRel {M with w:=M.w.alloc o}:=h.same (.alloc h o) λ_ a=>heap_alloc_old M.w o (h.lt a)
def AH.put(H:AH)(b:Nat)(a:IBlk):AH:=⟨λk=>H.A k\/k=b,λk=>if k=b then V a else H.G k,H.O⟩
def putβ(a:Bet)(b:Nat)(x:Option (Nat × Nat × Nat)):Bet:=λk=>if k=b then x else a k
def qdt{M:Mem}(h:MRel M)(b:Nat)(B: ¬M.H.A b)(sz m n:Nat)(r:List (List IV))(cs:Array Value)(ty:TypeId)
  (C: ∀g∈r,g.length=sz) (D:r.length<=n) (E:n<=maxLen) (q:qbn cs 0 (n * sz))
  (F: ∀(i:Nat) (g:List IV) (j:Nat) (x:IV),r[i]? =V g->g[j]? =V x-> ∃v,cs[i * sz+j]? =V v/\v.oneCell'=Y/\VRel M x v):
  qaf M ⟨M.w.alloc (.cells cs ty),M.H.put b (.arr sz m r),putβ M.β b (V (M.w.heap.size,0,n))⟩/\
  MRel ⟨M.w.alloc (.cells cs ty),M.H.put b (.arr sz m r),putβ M.β b (V (M.w.heap.size,0,n))⟩:=by
 have s:qaf M ⟨M.w.alloc (.cells cs ty),M.H.put b (.arr sz m r),putβ M.β b (V (M.w.heap.size,0,n))⟩:=by
  refine⟨rfl,rfl,rfl,wb,λc q A=>⟨heap_alloc_old M.w _ q,?_⟩,λ_ h=> .inl h,λl f w d=>?_,rfl,λ_ q=>heap_alloc_old M.w _ (h.olt _ q)⟩
  .rintro(y | ⟨l,k,o,p,d,a⟩)
   .exact A (.inl y)
   by_cases e:l=b
   .simp[putβ,e] at a;omega
   .simp only[AH.put,putβ,e,if_false] at d a;exact A (.inr ⟨l,k,o,p,d,a⟩)
  .have e:l≠b:=λe=>B (e ▸w)
   simp_all[AH.put,if_false,putβ]
 refine⟨s,h.change s b (.inr rfl) ?_ ?_ ?_ ?_ ?_ ?_⟩
 .intro l e;simp[AH.put,e]
 .intro l e;simp[putβ,e]
 .intro l k c o p e d a;exact heap_alloc_old M.w _ (h.lt (.inr ⟨l,k,o,p,d,a⟩))
 .intro f d;simp only[AH.put,if_true,Option.some.injEq] at d;subst d;refine⟨C,wr,λc o p a=>?_⟩;simp only[putβ,if_true,Option.some.injEq,Prod.mk.injEq] at a;obtain⟨rfl,rfl,rfl⟩:=a;refine⟨cs,ty,heap_alloc_new M.w _,D,E,q,λi g j x G H=>?_⟩;obtain⟨v,I,J,K⟩:=F i g j x G H;exact⟨v,wn,J,K.step s⟩
 .intro f c o p d a l k L z e t u;simp only[putβ,if_true,Option.some.injEq,Prod.mk.injEq] at a;have:=h.lt (.inr ⟨l,k,L,z,t,u⟩);omega
 .intro f c o p _ a y;simp only[putβ,if_true,Option.some.injEq,Prod.mk.injEq] at a;have:=h.olt c y;omega
def qeG{M}(h:MRel M)(b)(m: ¬M.H.A b)(sz g):
  qaf M ⟨M.w,M.H.put b (.arr sz g []),putβ M.β b U⟩/\MRel ⟨M.w,M.H.put b (.arr sz g []),putβ M.β b U⟩:=by
 have s:qaf M ⟨M.w,M.H.put b (.arr sz g []),putβ M.β b U⟩:=by
  refine⟨rfl,rfl,rfl,Kq _,λc _ l=>⟨rfl,?_⟩,λ_ h=> .inl h,λi f k a=>?_,rfl,λ_ _=>rfl⟩
  .rintro(p | ⟨i,j,o,n,a,d⟩)
   .exact l (.inl p)
   by_cases e:i=b
   .simp[putβ,e] at d
   .simp[AH.put,putβ,e] at a d;exact l (.inr ⟨i,j,o,n,a,d⟩)
  grind[AH.put,putβ]
 refine⟨s,h.change s b (.inr rfl) ?_ ?_ ?_ ?_ ?_ ?_⟩
 .intro i e;simp[AH.put,e]
 .intro i e;simp[putβ,e]
 .simp
 .intro f a;simp[AH.put,if_true] at a;subst a;exact⟨wb,wb,λc o n d=>by simp[putβ] at d⟩
 .intro f c o n a d;simp[putβ] at d
 .intro f c o n a d;simp[putβ] at d
def mem_chg{M:Mem}(h:MRel M){b sz g:Nat}{y:List (List IV)}{c o n:Nat}{cs:Array Value}{ty:TypeId}
  (C:M.H.G b=V (.arr sz g y)) (m:M.β b=V (c,o,n)) (K:M.w.heap[c]? =V (.cells cs ty (0,0)))
  (D o' B:Nat) (r:List (List IV)) (f:Array Value) (L:g<=D) (G:g=D->o'=o/\B=n/\r.length=y.length)
  (N: ∀p∈r,p.length=sz) (O:r.length<=B) (P:B<=maxLen) (H:qbn f o' (B * sz))
  (Q: ∀(i:Nat) (p:List IV) (j:Nat) (x:IV),r[i]? =V p->p[j]? =V x-> ∃v,f[o'+(i * sz+j)]? =V v/\v.oneCell'=Y/\VRel M x v):
  qaf M ⟨M.w.setRow c f,M.H.put b (.arr sz D r),putβ M.β b (V (c,o',B))⟩/\
  MRel ⟨M.w.setRow c f,M.H.put b (.arr sz D r),putβ M.β b (V (c,o',B))⟩:=by
 have z:M.own c:= .inr ⟨b,_,o,n,C,m⟩;have s:qaf M ⟨M.w.setRow c f,M.H.put b (.arr sz D r),putβ M.β b (V (c,o',B))⟩:=by
  refine⟨rfl,rfl,rfl,wb,λA a F=>⟨setRow_other M.w c A f (λe=>F (e ▸z)),?_⟩,λ_ h=> .inl h,λw l R d=>?_,rfl,λA a=>setRow_other M.w c A f (λe=>h.odis b _ c o n C m (e ▸a))⟩
  .rintro(I | ⟨w,u,q,t,d,k⟩)
   .exact F (.inl I)
   by_cases e:w=b
   .simp only[putβ,e,if_true,Option.some.injEq,Prod.mk.injEq] at k;exact F (k.1 ▸z)
   .simp only[AH.put,putβ,e,if_false] at d k;exact F (.inr ⟨w,u,q,t,d,k⟩)
  .by_cases e:w=b
   .subst e;simp only[AH.put,if_true,Option.some.injEq] at d;subst d;refine⟨_,C,rfl,rfl,L,λe=>?_⟩;obtain⟨S,J,T⟩:=G e;exact⟨by simp[putβ,m,S,J],T⟩
   simp_all[AH.put,if_false,putβ]
 refine⟨s,h.change s b (.inr rfl) ?_ ?_ ?_ ?_ ?_ ?_⟩
 .intro w e;simp[AH.put,e]
 .intro w e;simp[putβ,e]
 .intro w u A q t e d a;exact setRow_other M.w c A f (λJ=>e (h.inj w b u _ c q t o n d C (J ▸a) m))
 .intro l d;simp only[AH.put,if_true,Option.some.injEq] at d;subst d;refine⟨N,wr,λA q t a=>?_⟩;simp only[putβ,if_true,Option.some.injEq,Prod.mk.injEq] at a;obtain⟨rfl,rfl,rfl⟩:=a;refine⟨f,ty,setRow_heap M.w c cs f ty (0,0) K,O,P,H,λi p j x W X=>?_⟩;obtain⟨v,v1,v2,v3⟩:=Q i p j x W X;exact⟨v,v1,v2,v3.step s⟩
 .intro l A q t d a w u o3 n3 e E k;simp only[putβ,if_true,Option.some.injEq,Prod.mk.injEq] at a;obtain⟨rfl,rfl,rfl⟩:=a;exact e (h.inj w b u _ c o3 n3 o n E C k m)
 .intro l A q t _ a I;simp only[putβ,if_true,Option.some.injEq,Prod.mk.injEq] at a;obtain⟨rfl,rfl,rfl⟩:=a;exact h.odis b _ c o n C m I
def qpP{M:Mem}(h:MRel M){b sz g:Nat}{w:List (List IV)}(E:M.H.G b=V (.arr sz g w))
  (z u:Nat) (r:List (List IV)) (l:Array Value) (ty:TypeId) (F:g < z)
  (G: ∀m∈r,m.length=sz) (H:r.length<=u) (I:u<=maxLen) (A:qbn l 0 (u * sz))
  (J: ∀(i:Nat) (m:List IV) (j:Nat) (x:IV),r[i]? =V m->m[j]? =V x-> ∃v,l[i * sz+j]? =V v/\v.oneCell'=Y/\VRel M x v):
  qaf M ⟨M.w.alloc (.cells l ty),M.H.put b (.arr sz z r),putβ M.β b (V (M.w.heap.size,0,u))⟩/\
  MRel ⟨M.w.alloc (.cells l ty),M.H.put b (.arr sz z r),putβ M.β b (V (M.w.heap.size,0,u))⟩:=by
 have s:qaf M ⟨M.w.alloc (.cells l ty),M.H.put b (.arr sz z r),putβ M.β b (V (M.w.heap.size,0,u))⟩:=by
  refine⟨rfl,rfl,rfl,wb,λB d D=>⟨heap_alloc_old M.w _ d,?_⟩,λ_ h=> .inl h,λt k K a=>?_,rfl,λ_ L=>heap_alloc_old M.w _ (h.olt _ L)⟩
  .rintro(C | ⟨t,n,p,q,a,f⟩)
   .exact D (.inl C)
   by_cases e:t=b
   .simp only[putβ,e,if_true,Option.some.injEq,Prod.mk.injEq] at f;omega
   .simp only[AH.put,putβ,e,if_false] at a f;exact D (.inr ⟨t,n,p,q,a,f⟩)
  .by_cases e:t=b
   .subst e;simp only[AH.put,if_true,Option.some.injEq] at a;subst a;refine⟨_,E,rfl,rfl,KI F,λe=>?_⟩;simp only[IBlk.gen] at e;omega
   .simp only[AH.put,e,if_false] at a;exact⟨k,a,rfl,rfl,Kq _,λ_=>⟨by simp[putβ,e],rfl⟩⟩
 refine⟨s,h.change s b (.inr rfl) ?_ ?_ ?_ ?_ ?_ ?_⟩
 .intro t e;simp[AH.put,e]
 .intro t e;simp[putβ,e]
 .intro t n B p q e a d;exact heap_alloc_old M.w _ (h.lt (.inr ⟨t,n,p,q,a,d⟩))
 .intro k a;simp only[AH.put,if_true,Option.some.injEq] at a;subst a;refine⟨G,wr,λB p q d=>?_⟩;simp only[putβ,if_true,Option.some.injEq,Prod.mk.injEq] at d;obtain⟨rfl,rfl,rfl⟩:=d;refine⟨l,ty,heap_alloc_new M.w _,H,I,A,λi m j x N O=>?_⟩;obtain⟨v,P,Q,R⟩:=J i m j x N O;exact⟨v,by simpa using P,Q,R.step s⟩
 .intro k B p q a d t n S T e y f;simp only[putβ,if_true,Option.some.injEq,Prod.mk.injEq] at d;have:=h.lt (.inr ⟨t,n,S,T,y,f⟩);omega
 .intro k c o u _ d C;simp only[putβ,if_true,Option.some.injEq,Prod.mk.injEq] at d;have:=h.olt c C;omega
def tsz(P:Program)(t:TypeId):Option Nat:=(P.info? t).map (·.size)
def tby(P:Program)(t:TypeId):Option Nat:=(P.info? t).map (·.bytes)
def tze(P:Program)(t:TypeId):Option (List Value):=(P.info? t).bind λi=>i.zero.map λz=>z.cells.toList
def tag(P:Program)(t:TypeId):Option Bool:=(P.underlying t).map λd=>match d with | .struct _ | .array _ _=>Y | _=>Z
def tel(P:Program)(t:TypeId):Option TypeId:=match P.underlying t with | some (.slice e)=>V e | _=>U
def tar(P:Program)(t:TypeId):Option (Nat × TypeId):=match P.underlying t with | some (.array n e)=>V (n,e) | _=>U
def tfo(P:Program)(t:TypeId)(f:Nat):Option (Nat × TypeId):=match P.underlying t with | some (.struct a)=>(a[f]?).map λx=>(x.offset,x.type) | _=>U
inductive TK where
 | bool | int (k:IntKind) | float (k:FloatKind) | string | slice (e:TypeId) | map (k e:TypeId) | iface | other
 deriving DecidableEq
def tkd(P:Program)(t:TypeId):Option TK:=(P.underlying t).map λd=>match d with
 | .bool=> .bool | .int k=> .int k | .float k=> .float k | .string=> .string | .slice e=> .slice e | .map k e=> .map k e | .interface _=> .iface | _=> .other
section
variable{P:Program}
def qaD{t n}(h:tsz P t=V n)(w):(sizeOf t).run P w= .ok n w:=by
 unfold tsz at h;cases a:P.info? t with
 | none=>grind
 | some i=>simp_all[sizeOf,typeInfo]
def qcH{t b}(h:tag P t=V b)(w):(isAgg t).run P w= .ok b w:=by
 unfold tag at h;cases a:P.underlying t with
 | none=>grind
 | some d=>
   unfold isAgg;rw[Km,run_underlying a w];cases d<;>simp_all
def und_tel{t e}(h:tel P t=V e):P.underlying t=V (.slice e):=by grind[tel]
def qhc{t e n}(h:tar P t=V (n,e)):P.underlying t=V (.array n e):=by grind[tar]
def qnD{t b f off}(h:tfo P t f=V (off,b)): ∃fs x,P.underlying t=V (.struct fs)/\fs[f]? =V x/\x.offset=off/\x.type=b:=by grind[tfo]
end
def AH.upd(H:AH)(W:List (Nat × IBlk)):AH:=W.foldl (λH p=>H.put p.1 p.2) H
def qbl(P:Program)(o:Oper)(ρ:Operand->Option IV)(R:List (Nat × IBlk))(F:List Nat)(x:IV)(W:List (Nat × IBlk)):Prop:=
 ∀(M:Mem) (a:Act),MRel M->(∀p∈R,M.H.G p.1=V p.2)->(∀b∈F,¬M.H.A b)->
  (∀y∈o.op.operands,∀z,ρ y=V z->VRel M z (a.eval y))->
  ∀(K:Act->World->Prop) (Q:Exit->Act->World->Prop),
   (∀v c,qaf M c->MRel c->c.H=M.H.upd W->VRel c x v->K (a.put o.dst v) c.w)->o.wp P a M.w K Q
def qbl.read{P o ρ R x}
  (h: ∀(M) (a:Act),MRel M->(∀p∈R,M.H.G p.1=V p.2)->(∀y∈o.op.operands,∀z,ρ y=V z->VRel M z (a.eval y))->
   ∃v,(execOp a.eval o).run P M.w= .ok (.value v) M.w/\VRel M x v):qbl P o ρ R [] x []:=by
 intro M a b c _ d K Q e;obtain⟨v,f,g⟩:=h M a b c d;unfold Oper.wp;rw[f];exact e v M (.refl M) b rfl g
def qbl.does{P o ρ R W F x}
  (h: ∀(M) (a:Act),MRel M->(∀p∈R,M.H.G p.1=V p.2)->(∀b∈F,¬M.H.A b)->(∀y∈o.op.operands,∀z,ρ y=V z->VRel M z (a.eval y))->
   ∃v M',(execOp a.eval o).run P M.w= .ok (.value v) M'.w/\qaf M M'/\MRel M'/\M'.H=M.H.upd W/\VRel M' x v):qbl P o ρ R F x W:=by
 intro M a c d e f K Q g;obtain⟨v,M',i,j,k,l,m⟩:=h M a c d e f;unfold Oper.wp;rw[i];exact g v M' j k l m
def qbl.skips{P o ρ R W F}
  (h: ∀(M) (a:Act),MRel M->(∀p∈R,M.H.G p.1=V p.2)->(∀b∈F,¬M.H.A b)->(∀y∈o.op.operands,∀z,ρ y=V z->VRel M z (a.eval y))->
   ∃M',(execOp a.eval o).run P M.w= .ok .skip M'.w/\qaf M M'/\MRel M'/\M'.H=M.H.upd W):qbl P o ρ R F .dead W:=by
 intro M a c d e f K Q g;obtain⟨M',i,j,k,l⟩:=h M a c d e f;unfold Oper.wp;rw[i];exact g undef M' j k l (.dead _)
structure FR where
 x:IV
 R:List (Nat × IBlk):= []
 F:List Nat:= []
 W:List (Nat × IBlk):= []
def qew(P:Program)(t:TypeId)(r:List IV):Option IV:=
 match tag P t with
 | some Y=>match tsz P t with
   | some n=>if n<=r.length then V (.agg (r.take n)) else U
   | none=>U
 | some Z=>r.head?
 | none=>U
def sci(k:IntKind)(n:Int):IV:= .p (.sc (.int k n))
def scb(b:Bool):IV:= .p (.sc (.bool b))
def VRel.sc_inv{M v u}(h:VRel M (.p (.sc v)) u):u=v:=by
 cases h with
 | p x v h=>cases h;rfl
def VRel.sc(M v):VRel M (.p (.sc v)) v:= .p _ _ (.sc v)
def VRel.agg_inv{M cs u}(h:VRel M (.agg cs) u):
  ∃vs:List Value,u= .agg ⟨vs⟩/\vs.length=cs.length/\(∀v∈vs,v.oneCell'=Y)/\ ∀(i:Nat) (x v),cs[i]? =V x->vs[i]? =V v->VRel M x v:=by cases h<;>grind
def VRel.tup_inv{M cs u}(h:VRel M (.tup cs) u):
  ∃vs:List Value,u= .tuple ⟨vs⟩/\vs.length=cs.length/\ ∀(i:Nat) (x v),cs[i]? =V x->vs[i]? =V v->VRel M x v:=by cases h<;>grind
section
variable{P:Program}{w:World}
theorem qbo(c o i):(⟨c,o,U⟩:Addr).add i=⟨c,o+i,U⟩:=by simp_all[Addr.add]
def qhI{M:Mem}{t:TypeId}{r:List IV}{x:IV}(h:qew P t r=V x)(c o:Nat)
  (s: ∀(j:Nat) (y:IV),r[j]? =V y-> ∃v,M.w.cell? ⟨c,o+j,U⟩=V v/\v.oneCell'=Y/\VRel M y v):
  ∃v,(loadVar t ⟨c,o,U⟩).run P M.w= .ok v M.w/\VRel M x v:=by
 unfold qew at h;split at h
 .rename_i p;split at h
  .rename_i n z;split at h
   .rename_i A;simp only[Option.some.injEq] at h;subst h;have d: ∀j,j < n-> ∃v,M.w.cell? ⟨c,o+j,U⟩=V v/\v.oneCell'=Y/\ ∀y,r[j]? =V y->VRel M y v:=by
     intro j a;have e:j < r.length:=wa
     simp_all
    have g: ∃f:Nat->Value,∀j,j < n->M.w.cell? ⟨c,o+j,U⟩=V (f j)/\(f j).oneCell'=Y/\ ∀y,r[j]? =V y->VRel M y (f j):=by
     refine⟨λj=>if a:j < n then JP (d j a) else undef,λj a=>?_⟩
     grind
    obtain⟨f,g⟩:=g;have B:=run_loadCells (P:=P) M.w ⟨c,o,U⟩ n f (λj a=>by rw[qbo];simp_all);refine⟨.agg ((KZ n).map f).toArray,?_,?_⟩
    .unfold loadVar;rw[Km,qcH p];simp only[Kp,if_true,Km,qaD z,B,Kn]
    .refine .agg _ _ wm ?_ ?_<;>grind
   simp_all
  simp_all
 .rename_i p;obtain⟨v,m,u,q⟩:=s 0 x (by rw[<-List.head?_eq_getElem?];omega);refine⟨v,?_,q⟩;unfold loadVar;rw[Km,qcH p];simp_all
 simp_all
def BRel.row{M b sz g rows}(h:BRel M b (.arr sz g rows)){r a}(d:rows[r]? =V a)
  {c o n} (e:M.β b=V (c,o,n)) (j y) (f:a[j]? =V y):
  ∃v,M.w.cell? ⟨c,o+(r * sz+j),U⟩=V v/\v.oneCell'=Y/\VRel M y v:=by
 obtain⟨i,t,q,_,_,_,k⟩:=h.2.2 c o n e;obtain⟨v,l,m,p⟩:=k r a j y d f;exact⟨v,by rw[cell_of_row M.w c _ i t (0,0) q];omega,m,p⟩
end
end Go.Idl
namespace Go.Idl
variable{P:Program}{o:Oper}{ρ:Operand->Option IV}{G:Nat->Option IBlk}
abbrev FR.ok(fr:FR)(P:Program)(o:Oper)(ρ:Operand->Option IV):Prop:=qbl P o ρ fr.R fr.F fr.x fr.W
def VRel.ptr_inv{M b g r j v}(h:VRel M (.ptr b g r j) v){blk}(a:M.H.G b=V blk)(c:g=blk.gen):
  ptrOk (M.β b) blk.sz r j v:=by cases h<;>simp_all
def VRel.ref_inv{M b g off len v}(h:VRel M (.ref b g off len) v){blk}(a:M.H.G b=V blk)(c:g=blk.gen):
  qdD (M.β b) blk.sz blk.len off len v:=by cases h<;>simp_all
def VRel.rp_inv{M a v}(h:VRel M (.p (.rp a)) v):
  ∃c o,v= .pointer (V ⟨c,o,U⟩)/\c < M.w.heap.size/\ ¬M.own c/\
   ∀(j x),a[j]? =V x-> ∃u,M.w.cell? ⟨c,o+j,U⟩=V u/\u.oneCell'=Y/\PRel M.w M.own x u:=by
 cases h with
 | p x v h=>
   cases h<;>grind
def VRel.imm_inv{M sz rows v}(h:VRel M (.p (.imm sz rows)) v):
  ∃a cap c o,v= .slice a rows.length cap/\rows.length<=cap/\cap<=maxLen/\(0 < rows.length->a=V ⟨c,o,U⟩/\c < M.w.heap.size/\ ¬M.own c)/\
   (∀(i:Nat) (r),rows[i]? =V r->r.length=sz)/\
   ∀(i r j x),rows[i]? =V r->r[j]? =V x->
    ∃u,M.w.cell? ⟨c,o+(i * sz+j),U⟩=V u/\u.oneCell'=Y/\PRel M.w M.own x u:=by
 cases h with
 | p x v h=>
   cases h with
   | imm sz rows a cap c o f g k l m e n=>
     exact⟨a,cap,c,o,rfl,g,k,l,m,λi r j x b d=>⟨f i j,(e i r j x b d).1,(e i r j x b d).2,n i r j x b d⟩⟩
def PRel.mk_imm{w b rows a cap sz c o}
  (l:rows.length<=cap) (m:cap<=maxLen) (n:0 < rows.length->a=V ⟨c,o,U⟩/\c < w.heap.size/\ ¬b c)
  (p: ∀(i:Nat) (r),rows[i]? =V r->r.length=sz)
  (q: ∀(i r j x),rows[i]? =V r->r[j]? =V x->
   ∃u,w.cell? ⟨c,o+(i * sz+j),U⟩=V u/\u.oneCell'=Y/\PRel w b x u):
  PRel w b (.imm sz rows) (.slice a rows.length cap):=by
 have g: ∀i j,∃u,∀r x,rows[i]? =V r->r[j]? =V x->w.cell? ⟨c,o+(i * sz+j),U⟩=V u/\u.oneCell'=Y/\PRel w b x u:=by
  intro i j;cases e:rows[i]? with
  | none=>simp
  | some r=>
    cases d:r[j]? with
    | none=>exact⟨undef,wg⟩
    | some x=>
      obtain⟨u,h⟩:=q i r j x e d;exact⟨u,wg⟩
 exact .imm sz rows a cap c o (λi j=>JP (g i j)) l m n p
  (λi r j x e d=>⟨(JO (g i j) r x e d).1,(JO (g i j) r x e d).2.1⟩)
  (λi r j x e d=>(JO (g i j) r x e d).2.2)
def PRel.mk_rp{w b a c o}(f:c < w.heap.size/\ ¬b c)
  (g: ∀(j x),a[j]? =V x-> ∃u,w.cell? ⟨c,o+j,U⟩=V u/\u.oneCell'=Y/\PRel w b x u):
  PRel w b (.rp a) (.pointer (V ⟨c,o,U⟩)):=by
 have e: ∀j,∃u,∀x,a[j]? =V x->w.cell? ⟨c,o+j,U⟩=V u/\u.oneCell'=Y/\PRel w b x u:=by
  intro j;cases d:a[j]? with
  | none=>simp
  | some x=>
    simp_all
 exact .rp a c o (λj=>JP (e j)) f
  (λj x d=>⟨(JO (e j) x d).1,(JO (e j) x d).2.1⟩) (λj x d=>(JO (e j) x d).2.2)
def qpu{y z}(h:o.op= .move y\/o.op= .assign y)(b:ρ y=V z):qbl P o ρ [] [] z []:=by
 refine .read λM a _ _ c=>⟨a.eval y,?_,?_⟩
 .rcases h with h | h<;>simp[execOp,h]
 grind[Ka]
def f_pick{c x y t u v}(h:o.op= .pick c x y)(d:ρ c=V (scb t))(e:ρ x=V u)(f:ρ y=V v):
  qbl P o ρ [] [] (if t then u else v) []:=by
 refine .read λM a _ _ b=>⟨if t then a.eval x else a.eval y,?_,?_⟩
 .have:=(b c (by simp[h,Ka]) _ d).sc_inv;simp[execOp,h,this,asBool]
 grind[Ka]
def qgQ(P:Program)(G:Nat->Option IBlk)(t:TypeId):IV->Option FR
 | .ptr b g r j=>match G b with
   | some (.arr s e a)=>if g=e then match a[r]? with
     | some d=>(qew P t (d.drop j)).map λx=> {x,R:= [(b, .arr s e a)]}
     | none=>U
     else U
   | _=>U
 | .p (.rp c)=>(qew P t (c.map .p)).map λx=> {x}
 | _=>U
def f_load{t:TypeId}{y:Operand}{z:IV}{fr:FR}(q:o.op= .load t y)(H:ρ y=V z)(h:qgQ P G t z=V fr):fr.ok P o ρ:=by
 unfold qgQ at h;split at h
 .rename_i b g r j;split at h
  .rename_i I X i hb;split at h
   .rename_i Q;subst Q;split at h
    .rename_i w l;cases e:qew P t (w.drop j) with
     | none=>simp_all
     | some x=>
       simp only[e,Jp,Option.some.injEq] at h;subst h;refine .read λM a J K A=>?_;have m:M.H.G b=V (.arr I g i):=K (b,_) wb;obtain⟨c,B,n,R,s⟩:=(A y (by simp[q,Ka]) _ H).ptr_inv m rfl;obtain⟨v,L,N⟩:=qhI (P:=P) (M:=M) e c (B+(r * I+j)) (λk O f=>by
        rw[KT] at f;obtain⟨u,C,D,E⟩:=(J.blk b _ m).row l R (j+k) O f
        grind)
       simp_all[IBlk.sz,execOp,Instr.loadAt,Instr.sureAddr]
    simp_all
   simp_all
  simp_all
 .rename_i d;cases e:qew P t (d.map .p) with
  | none=>simp_all
  | some x=>
    simp only[e,Jp,Option.some.injEq] at h;subst h;refine .read λM a J K A=>?_;obtain⟨c,B,s,L,N,S⟩:=(A y (by simp[q,Ka]) _ H).rp_inv;obtain⟨v,T,W⟩:=qhI (P:=P) (M:=M) e c B (λk O f=>by
     cases F:d[k]? with
     | none=>simp_all
     | some x=>
       simp[F] at f;subst f;obtain⟨u,C,D,E⟩:=S k x F;exact⟨u,C,D, .p _ _ E⟩)
    simp_all[execOp,Instr.loadAt,Instr.sureAddr]
 simp_all
def qeQ(P:Program)(s:TypeId)(f:Nat):IV->Option FR
 | .ptr b g r j=>match tfo P s f with
   | some (a,d)=>match tsz P d with
     | some (_+1)=>V {x:= .ptr b g r (j+a)}
     | _=>U
   | none=>U
 | .p (.rp c)=>match tfo P s f with
   | some (a,d)=>match tsz P d with
     | some (_+1)=>V {x:= .p (.rp (c.drop a))}
     | _=>U
   | none=>U
 | _=>U
def qhs{s a f off n}(h:tfo P s f=V (off,a))(b:tsz P a=V (n+1))(c o' w):
  (Instr.fieldAt s (.pointer (V ⟨c,o',U⟩)) f).run P w= .ok (.pointer (V ⟨c,o'+off,U⟩)) w:=by
 obtain⟨g,x,d,e,rfl,rfl⟩:=qnD h;simp[Instr.fieldAt,run_underlying d,e,Instr.sureAddr,fieldPlace,qaD b];simp[qbo]
def VRel.ptr_any{M b g r j v}(h:VRel M (.ptr b g r j) v): ∃c o',v= .pointer (V ⟨c,o',U⟩):=by cases h<;>omega
def VRel.ref_any{M b g off len v}(h:VRel M (.ref b g off len) v): ∃a cap,v= .slice a len cap:=by cases h<;>omega
def VRel.ptr_add{M b g r j c o'}(h:VRel M (.ptr b g r j) (.pointer (V ⟨c,o',U⟩)))(k):
  VRel M (.ptr b g r (j+k)) (.pointer (V ⟨c,o'+k,U⟩)):=by
 cases h with
 | ptr b g r j v f a h=>
   refine .ptr b g r (j+k) _ f ⟨_,_,rfl⟩ λd i=>?_;obtain⟨l,m⟩:=h d i;refine⟨l,λp=>?_⟩;obtain⟨q,o,n,e,a⟩:=m p;obtain⟨rfl,rfl,_⟩:=a;exact⟨c,o,n,e,wb⟩
def qrT{s f y z fr}(i:o.op= .fieldAddr s y f)(v:ρ y=V z)(h:qeQ P s f z=V fr):fr.ok P o ρ:=by
 unfold qeQ at h;split at h
 .split at h
  .rename_i d B k;split at h
   .rename_i n l;cases h;refine .read λM a C D m=>?_;have q:=m y ws _ v;obtain⟨c,w,e⟩:=q.ptr_any;rw[e] at q;exact⟨_,by simp[execOp,i,e,qhs k l],q.ptr_add d⟩
   simp_all
  simp_all
 .split at h
  .rename_i d B k;split at h
   .rename_i n l;cases h;refine .read λM a C D m=>?_;obtain⟨c,w,e,E,F,H⟩:=(m y ws _ v).rp_inv;refine⟨.pointer (V ⟨c,w+d,U⟩),by simp[execOp,i,e,qhs k l], .p _ _ (.mk_rp ⟨E,F⟩ λj x A=>?_)⟩
    grind
   simp_all
  simp_all
 simp_all
def idx(i:IV)(len:Nat):Option Nat:=
 match i with
 | .p (.sc (.int _ n))=>if 0<=n/\n.toNat < len then V n.toNat else U
 | _=>U
def qd5{M i len k v}(h:idx i len=V k)(b:VRel M i v): ∃a n,v= .int a n/\0<=n/\n < len/\n.toNat=k/\k < len:=by
 unfold idx at h;split at h
 .rename_i a n;split at h
  .rename_i c;simp at h;exact⟨a,n,b.sc_inv,c.1,wa,h,wa⟩
  grind
 grind
def qeS(P:Program)(G:Nat->Option IBlk)(t:TypeId)(x i:IV):Option FR:=
 match x with
 | .p (.imm s a)=>match tel P t with
   | some e=>match tsz P e,idx i a.length with
     | some n,V k=>match a[k]? with
       | some d=>if n=s then V {x:= .p (.rp d)} else U
       | none=>U
     | _,_=>U
   | none=>U
 | .ref b g f l=>match tel P t with
   | some e=>match tsz P e,idx i l,G b with
     | some n,V k,V (.arr s h a)=>if g=h/\n=s then V {x:= .ptr b g (f+k) 0,R:= [(b, .arr s h a)]} else U
     | _,_,_=>U
   | none=>U
 | .ptr b g r j=>match tar P t with
   | some (l,e)=>match tsz P e,idx i l with
     | some n,V k=>V {x:= .ptr b g r (j+k * n)}
     | _,_=>U
   | none=>U
 | .p (.rp c)=>match tar P t with
   | some (l,e)=>match tsz P e,idx i l with
     | some n,V k=>V {x:= .p (.rp (c.drop (k * n)))}
     | _,_=>U
   | none=>U
 | _=>U
def qrV{t:TypeId}{x i:Operand}{zx zi:IV}{fr:FR}(d:o.op= .indexAddr t x i)(L:ρ x=V zx)(N:ρ i=V zi)
  (h:qeS P G t zx zi=V fr):fr.ok P o ρ:=by
 unfold qeS at h;split at h
 .rename_i sz q;split at h
  .rename_i e v;split at h
   .rename_i n k w z;split at h
    .rename_i T I;split at h
     .rename_i hl;simp only[Option.some.injEq] at h;subst h;refine .read λM a O Q f=>?_;obtain⟨a0,W,c,A,l,X,h2,R,h4,h5⟩:=(f x wx _ L).imm_inv;obtain⟨kd,m,B,C,D,E,h9⟩:=qd5 z (f i wx _ N);obtain⟨e3,a1,a2⟩:=R wa;subst e3;subst hl;refine⟨.pointer (V ⟨c,A+k * n,U⟩),?_, .p _ _ (.mk_rp ⟨a1,a2⟩ λj y S=>?_)⟩
      .have F:=und_tel v;simp only[execOp,d,l,B];simp only[Instr.indexAt,asIntOf,Km,Kn,Kp,run_underlying F,C,D,and_self,if_true,qaD w,E,qbo]
      .obtain⟨u,u1,u2,u3⟩:=h5 k T j y I S;exact⟨u,by rw[<-u1];congr 2;omega,u2,u3⟩
     .cases h
    .cases h
   .cases h
  .cases h
 .rename_i b g J K;split at h
  .rename_i e v;split at h
   .rename_i n k sz g' q w z hb;split at h
    .rename_i hg;obtain⟨rfl,rfl⟩:=hg;simp only[Option.some.injEq] at h;subst h;refine .read λM a O Q f=>?_;have H:M.H.G b=V (.arr n g q):=Q (b,_) wb;have a3:=f x wx _ L;obtain⟨a0,W,l,X,h2,R,h4⟩:=a3.ref_inv H rfl;obtain⟨kd,m,B,C,D,E,h9⟩:=qd5 z (f i wx _ N);rcases h4 with h4 | ⟨c,A,n',a4,e3,h5⟩
     .omega
     .subst e3;simp only[IBlk.sz] at l;refine⟨.pointer (V ⟨c,A+J * n+k * n,U⟩),?_,?_⟩
      .have F:=und_tel v;simp only[execOp,d,l,B];simp only[Instr.indexAt,asIntOf,Km,Kn,Kp,run_underlying F,C,D,and_self,if_true,qaD w,E,qbo]
      .have hA:M.H.A b:=O.dom b _ H;refine .ptr b g (J+k) 0 _ hA ⟨_,_,rfl⟩ λa6 s=>?_;rw[H] at s;cases s;refine⟨Kq _,λ_=>⟨c,A,n',a4,?_⟩⟩;simp only[IBlk.sz];congr 3;rw[Kr];omega
    .cases h
   .cases h
  .cases h
 .rename_i b g r j;split at h
  .rename_i K e v;split at h
   .rename_i n k w z;simp only[Option.some.injEq] at h;subst h;refine .read λM a O Q f=>?_;have hv:=f x wx _ L;obtain⟨c,A,l⟩:=hv.ptr_any;rw[l] at hv;obtain⟨kd,m,B,C,D,E,h9⟩:=qd5 z (f i wx _ N);refine⟨_,?_,hv.ptr_add (k * n)⟩;have F:=qhc v;simp only[execOp,d,l,B];simp only[Instr.indexAt,Instr.sureAddr,asIntOf,Km,Kn,Kp,run_underlying F,C,D,and_self,if_true,qaD w,E,qbo]
   .cases h
  .cases h
 .rename_i a5;split at h
  .rename_i K e v;split at h
   .rename_i n k w z;simp only[Option.some.injEq] at h;subst h;refine .read λM a O Q f=>?_;obtain⟨c,A,l,X,h2,R⟩:=(f x wx _ L).rp_inv;obtain⟨kd,m,B,C,D,E,h9⟩:=qd5 z (f i wx _ N);refine⟨.pointer (V ⟨c,A+k * n,U⟩),?_, .p _ _ (.mk_rp ⟨X,h2⟩ λj y S=>?_)⟩
    .have F:=qhc v;simp only[execOp,d,l,B];simp only[Instr.indexAt,Instr.sureAddr,asIntOf,Km,Kn,Kp,run_underlying F,C,D,and_self,if_true,qaD w,E,qbo]
    .rw[KT] at S;obtain⟨u,u1,u2,u3⟩:=R _ y S;exact⟨u,by rw[<-u1];congr 2;omega,u2,u3⟩
   .cases h
  .cases h
 .cases h
end Go.Idl
namespace Go.Idl
variable{P:Program}{o:Oper}{ρ:Operand->Option IV}{G:Nat->Option IBlk}
def ibin:BinOp->IntKind->Int->Int->Option Value
 | .add,k,a,b=>V (.int k (k.wrap (a+b)))
 | .sub,k,a,b=>V (.int k (k.wrap (a - b)))
 | .mul,k,a,b=>V (.int k (k.wrap (a * b)))
 | .quo,k,a,b=>if b=0 then U else V (.int k (k.wrap (a.tdiv b)))
 | .rem,k,a,b=>if b=0 then U else V (.int k (a.tmod b))
 | .and,k,a,b=>V (.int k (bits .and k a b))
 | .or,k,a,b=>V (.int k (bits .or k a b))
 | .xor,k,a,b=>V (.int k (bits .xor k a b))
 | .andNot,k,a,b=>V (.int k (bits .andNot k a b))
 | .eql,_,a,b=>V (.bool (a==b))
 | .neq,_,a,b=>V (.bool (a != b))
 | .lss,_,a,b=>V (.bool (decide (a < b)))
 | .leq,_,a,b=>V (.bool (decide (a<=b)))
 | .gtr,_,a,b=>V (.bool (decide (b < a)))
 | .geq,_,a,b=>V (.bool (decide (b<=a)))
 | _,_,_,_=>U
def qkk:BinOp->IntKind->Int->Int->Option Value
 | .shl,k,a,b=>if b < 0 then U else V (.int k (k.wrap (a * 2 ^ (min b.toNat k.bits))))
 | .shr,k,a,b=>if b < 0 then U else V (.int k (a.fdiv (2 ^ (min b.toNat k.bits))))
 | _,_,_,_=>U
def ql9:BinOp->ByteArray->ByteArray->Option Value
 | .add,a,b=>if a.size+b.size<=9223372036854775807 then V (.string (a++b)) else U
 | .eql,a,b=>V (.bool (a.toList==b.toList))
 | .neq,a,b=>V (.bool !(a.toList==b.toList))
 | .lss,a,b=>V (.bool (Ke a.toList b.toList))
 | .leq,a,b=>V (.bool (Ke a.toList b.toList || a.toList==b.toList))
 | .gtr,a,b=>V (.bool !(Ke a.toList b.toList || a.toList==b.toList))
 | .geq,a,b=>V (.bool !(Ke a.toList b.toList))
 | _,_,_=>U
def qkd:BinOp->FloatKind->Nat->Nat->Option Value
 | .add,k,a,b=>(k.format.add a b).map λr=> .float k r
 | .sub,k,a,b=>(k.format.sub a b).map λr=> .float k r
 | .mul,k,a,b=>(k.format.mul a b).map λr=> .float k r
 | .quo,k,a,b=>(k.format.div a b).map λr=> .float k r
 | .eql,k,a,b=>V (.bool (k.format.order a b==V .eq))
 | .neq,k,a,b=>V (.bool (k.format.order a b != V .eq))
 | .lss,k,a,b=>V (.bool (k.format.order a b==V .lt))
 | .leq,k,a,b=>V (.bool (k.format.order a b==V .lt || k.format.order a b==V .eq))
 | .gtr,k,a,b=>V (.bool (k.format.order a b==V .gt))
 | .geq,k,a,b=>V (.bool (k.format.order a b==V .gt || k.format.order a b==V .eq))
 | _,_,_,_=>U
def sbin(P:Program)(op:BinOp)(t:TypeId):Value->Value->Option Value
 | .int k a, .int c b=>
   match op with
   | .shl | .shr=>qkk op k a b
   | _=>if k=c then ibin op k a b else U
 | .string a, .string b=>ql9 op a b
 | .float k a, .float c b=>if k=c then qkd op k a b else U
 | .bool a, .bool b=>match op,tkd P t with
   | .eql,V .bool=>V (.bool (a==b))
   | .neq,V .bool=>V (.bool !(a==b))
   | _,_=>U
 | _,_=>U
def qgM{t}(h:tkd P t=V .bool):P.underlying t=V .bool:=by
 unfold tkd at h;cases a:P.underlying t with
 | none=>grind
 | some d=>grind
def eqGuard_key(t)(x y:Operand)(a b:Value)(w:World)(m):
  ¬(a= .nilIface/\b= .nilIface)->(∀xs ys,¬(a= .agg xs/\b= .agg ys))->((if(!m)=Y then pure () else match a,b with
   | .nilIface, .nilIface=>
     if(x matches .const _) || (y matches .const _) then pure () else do
      if <-Kg Kf t a b then unsupported (.noEntry "binop/eql: two nil values of an interface type with methods, neither of them the literal nil") else pure ()
   | .agg _, .agg _=>do
     if !(<-program).eqGuardType (<-program).depth t then pure () else do
      if <-Kg Kf t a b then unsupported (.noEntry "binop/eql: two nil values of an interface type with methods, in a part of a struct or an array") else pure ()
   | _,_=>pure ())).run P w= .ok () w:=wn
def qaS(op t x y){a b}(h: ¬(a= .nilIface/\b= .nilIface))(c: ∀xs ys,¬(a= .agg xs/\b= .agg ys))(w):
  (eqGuard op t x y a b).run P w= .ok () w:=by cases op<;>first | rfl | exact eqGuard_key t x y a b w Y h c
def run_sbin{op:BinOp}{t:TypeId}{a b v:Value}(h:sbin P op t a b=V v)(x y:Operand)(w:World):
  (do eqGuard op t x y a b;binOp op t a b:Sem Value).run P w= .ok v w:=by
 unfold sbin at h;split at h
 .rename_i k a g b;rw[Km,qaS op t x y wb wb w,Kp];split at h
  .unfold qkk at h;simp only at h;split at h
   .cases h
   .rename_i c;simp only[Option.some.injEq] at h;subst h;simp[binOp,Op.shift,c]
  .unfold qkk at h;simp only at h;split at h
   .cases h
   .rename_i c;simp only[Option.some.injEq] at h;subst h;simp[binOp,Op.shift,c]
  .split at h
   .rename_i e;subst e;cases op<;>simp only[ibin,Option.some.injEq,reduceCtorEq] at h
    case quo=>
     split at h
     .cases h
     .rename_i c;simp only[Option.some.injEq] at h;subst h;simp[binOp,Op.intDiv,c]
    case rem=>
     split at h
     .cases h
     .rename_i c;simp only[Option.some.injEq] at h;subst h;simp[binOp,Op.intDiv,c]
    all_goals(subst h;simp[binOp,Kh,Ki,Op.intCmp,bits])
   .cases h
 .rename_i a b;rw[Km,qaS op t x y wb wb w,Kp];cases op<;>simp only[ql9,Option.some.injEq,reduceCtorEq] at h
  case add=>
   split at h
   .rename_i c;simp only[Option.some.injEq] at h;subst h;have i: ¬(((a.size+b.size:Nat):Int) > IntKind.i64.max):=by
     have:IntKind.i64.max=9223372036854775807:=wh
     rw[this];omega
    simp only[binOp,Kj,i,if_false,Kn]
   .cases h
  all_goals(subst h;simp[binOp,Kj])
 .rename_i k a g b;rw[Km,qaS op t x y wb wb w,Kp];split at h
  .rename_i e;subst e;cases op<;>simp only[qkd,Option.some.injEq,reduceCtorEq,Jq] at h
   case add=>obtain⟨r,d,rfl⟩:=h;simp[binOp,Kd,d]
   case sub=>obtain⟨r,d,rfl⟩:=h;simp[binOp,Kd,d]
   case mul=>obtain⟨r,d,rfl⟩:=h;simp[binOp,Kd,d]
   case quo=>obtain⟨r,d,rfl⟩:=h;simp[binOp,Kd,d]
   all_goals(subst h;simp[binOp,Op.floatCmp])
  .cases h
 .rename_i a b;rw[Km,qaS op t x y wb wb w,Kp];split at h
  .rename_i f;simp only[Option.some.injEq] at h;subst h;simp only[binOp];simp[Kb,Kf,run_equalIn_bool' w 9999 t a b (qgM f)]
  .rename_i f;simp only[Option.some.injEq] at h;subst h;simp only[binOp];simp[Kb,Kf,run_equalIn_bool' w 9999 t a b (qgM f)]
  .cases h
 .cases h
def fbin(P:Program)(op:BinOp)(t:TypeId):IV->IV->Option FR
 | .p (.sc a), .p (.sc b)=>(sbin P op t a b).map λv=> {x:= .p (.sc v)}
 | _,_=>U
def f_bin{op t t' x y z f fr}(d:o.op= .binOp op t x y t')(i:ρ x=V z)(j:ρ y=V f)
  (h:fbin P op t z f=V fr):fr.ok P o ρ:=by
 unfold fbin at h;split at h
 .rename_i a b;cases e:sbin P op t a b with
  | none=>grind
  | some v=>
    simp[e] at h;subst h;refine .read λM m _ _ g=>⟨v,?_, .sc M v⟩;have k:=(g x wx _ i).sc_inv;have l:=(g y wx _ j).sc_inv;have c:=run_sbin e x y M.w;simp only[execOp,d,k,l];rw[Km,c];rfl
 grind
def sun:UnOp->Value->Option Value
 | .not, .bool b=>V (.bool !b)
 | .neg, .int k n=>V (.int k (k.wrap (0 - n)))
 | .xor, .int k n=>V (.int k (bits .xor k (if k.signed then -1 else k.max) n))
 | .neg, .float k b=>V (.float k (Op.negFloat k b))
 | _,_=>U
def fun1(op:UnOp):IV->Option FR
 | .p (.sc a)=>(sun op a).map λv=> {x:= .p (.sc v)}
 | _=>U
def f_un{op t x z fr}(c:o.op= .unOp op t x)(d:ρ x=V z)(h:fun1 op z=V fr):fr.ok P o ρ:=by
 unfold fun1 at h;split at h
 .rename_i a;cases b:sun op a with
  | none=>grind
  | some v=>
    simp[b] at h;subst h;refine .read λM g _ _ e=>⟨v,?_, .sc M v⟩;have f:=(e x w0 _ d).sc_inv;simp[execOp,c,f];unfold sun at b;split at b<;>simp at b<;>subst b<;>simp[Op.unary,Kh,Ki,bits]
 grind
def scv(P:Program)(a dst:TypeId):Value->Option Value
 | .int _ n=>match tkd P a,tkd P dst with
   | some _,V (.int k)=>V (.int k (k.wrap n))
   | some _,V (.float k)=>V (.float k (k.nearest n))
   | _,_=>U
 | .float s b=>match tkd P a,tkd P dst with
   | some _,V (.int k)=>match(s.decode b).toInt .zero with
     | some n=>if k.min<=n/\n<=k.max then V (.int k n) else U
     | none=>U
   | _,_=>U
 | .string s=>match tkd P a,tkd P dst with
   | some _,V .string=>V (.string s)
   | _,_=>U
 | _=>U
def qaT{t k}(h:tkd P t=V k): ∃d,P.underlying t=V d/\(match k with
  | .bool=>d= .bool | .int k=>d= .int k | .float k=>d= .float k | .string=>d= .string | .slice e=>d= .slice e | .map a b=>d= .map a b | .iface=> ∃m,d= .interface m | .other=>True):=by
 unfold tkd at h;cases c:P.underlying t with
 | none=>grind
 | some d=>
   grind
def qsw{s dst:TypeId}{a v:Value}(h:scv P s dst a=V v)(w:World):(convert s dst a).run P w= .ok v w:=by
 unfold scv at h;split at h
 .split at h
  .rename_i f k b c;simp only[Option.some.injEq] at h;subst h;obtain⟨g,u,_⟩:=qaT b;obtain⟨i,d,e⟩:=qaT c;simp only at e;subst e;unfold convert;rw[Km,run_underlying u,Kp,Km,run_underlying d,Kp];simp[Conv.intToInt]
  .rename_i f k b c;simp only[Option.some.injEq] at h;subst h;obtain⟨g,u,_⟩:=qaT b;obtain⟨i,d,e⟩:=qaT c;simp only at e;subst e;unfold convert;rw[Km,run_underlying u,Kp,Km,run_underlying d,Kp];simp[Conv.intToFloat]
  .cases h
 .split at h
  .rename_i f k b c;obtain⟨g,u,_⟩:=qaT b;obtain⟨i,d,e⟩:=qaT c;simp only at e;subst e;split at h
   .rename_i n j;split at h
    .rename_i l;simp only[Option.some.injEq] at h;subst h;unfold convert;rw[Km,run_underlying u,Kp,Km,run_underlying d,Kp];simp[Conv.floatToInt,j,l]
    .cases h
   .cases h
  .cases h
 .split at h
  .rename_i f b c;obtain⟨g,u,_⟩:=qaT b;obtain⟨i,d,e⟩:=qaT c;simp only at e;subst e;simp only[Option.some.injEq] at h;subst h;unfold convert;rw[Km,run_underlying u,Kp,Km,run_underlying d,Kp];simp
  .cases h
 .cases h
def fconv(P:Program)(s dst:TypeId):IV->Option FR
 | .p (.sc a)=>(scv P s dst a).map λv=> {x:= .p (.sc v)}
 | _=>U
def f_conv{s dst x z fr}(c:o.op= .convert s dst x)(d:ρ x=V z)(h:fconv P s dst z=V fr):fr.ok P o ρ:=by
 unfold fconv at h;split at h
 .rename_i a;cases b:scv P s dst a with
  | none=>grind
  | some v=>
    simp[b] at h;subst h;refine .read λM g _ _ e=>⟨v,?_, .sc M v⟩;have f:=(e x w0 _ d).sc_inv;simp only[execOp,c,f];rw[Km,qsw b];rfl
 grind
def qfp(P:Program)(t:TypeId)(cs:List IV)(off:Nat):Option IV:=
 match tag P t with
 | some Y=>match tsz P t with
   | some n=>V (.agg ((cs.drop off).take n))
   | none=>U
 | some Z=>cs[off]?
 | none=>U
def qjK{M t cs off x vs}(h:qfp P t cs off=V x)(g:vs.length=cs.length)
  (k: ∀v∈vs,v.oneCell'=Y) (j: ∀(i:Nat) (x v),cs[i]? =V x->vs[i]? =V v->VRel M x v):
  ∃v,(part t ⟨vs⟩ off).run P M.w= .ok v M.w/\VRel M x v:=by
 unfold qfp at h;split at h
 .rename_i d;split at h
  .rename_i n l;cases h;refine⟨.agg ⟨(vs.drop off).take n⟩,?_, .agg _ _ wg (λv a=>k v (K3 (KW a))) λi y v b a=>?_⟩
   .unfold part;rw[Km,qcH d];simp only[Kp,if_true,Km,qaD l];simp
   grind
  simp_all
 .rename_i d;have c:off < vs.length:=by
   grind
  refine⟨vs[off],?_,j off x _ h (KS c)⟩;unfold part;rw[Km,qcH d];simp[c]
 simp_all
def qeR(P:Program)(t:TypeId)(f:Nat):IV->Option FR
 | .agg c=>match tfo P t f with
   | some (a,b)=>(qfp P b c a).map λx=> {x}
   | none=>U
 | _=>U
def qrU{t x f i fr}(j:o.op= .field t x f)(k:ρ x=V i)(h:qeR P t f i=V fr):fr.ok P o ρ:=by
 unfold qeR at h;split at h
 .rename_i l;split at h
  .rename_i c m n;cases d:qfp P m l c with
   | none=>grind
   | some z=>
     simp[d] at h;subst h;refine .read λM w _ _ p=>?_;obtain⟨y,e,q,r,s⟩:=(p x (by simp[j,Ka]) _ k).agg_inv;obtain⟨A,B,u,g,rfl,rfl⟩:=qnD n;obtain⟨v,a,b⟩:=qjK (P:=P) d q r s;refine⟨v,?_,b⟩;simp[execOp,j,e];simp[Instr.field,run_underlying u,g,asAgg,a]
  grind
 grind
def qeU(P:Program)(t:TypeId)(x i:IV):Option FR:=
 match x with
 | .agg c=>match tar P t with
   | some (l,e)=>match tsz P e,idx i l with
     | some n,V k=>(qfp P e c (k * n)).map λx=> {x}
     | _,_=>U
   | none=>U
 | .p (.sc (.string s))=>match tkd P t,idx i s.size with
   | some .string,V k=>(s.data[k]?).map λb=> {x:=sci .u8 b.toNat}
   | _,_=>U
 | _=>U
def qrW{t:TypeId}{x i:Operand}{B C:IV}{fr:FR}(a:o.op= .index t x i)(D:ρ x=V B)(E:ρ i=V C)(h:qeU P t B C=V fr):fr.ok P o ρ:=by
 unfold qeU at h;split at h
 .rename_i I;split at h
  .rename_i J e K;split at h
   .rename_i n k L l;cases p:qfp P e I (k * n) with
    | none=>simp[p] at h
    | some z=>
      simp only[p,Jp,Option.some.injEq] at h;subst h;refine .read λM N _ _ c=>?_;obtain⟨vs,q,O,Q,R⟩:=(c x (by simp[a,Ka]) _ D).agg_inv;obtain⟨S,m,r,u,F,w,T⟩:=qd5 l (c i (by simp[a,Ka]) _ E);obtain⟨v,f,g⟩:=qjK (P:=P) p O Q R;refine⟨v,?_,g⟩;have y:=qhc K;simp only[execOp,a,q,r];simp only[Instr.index,asIntOf,Km,Kn,Kp,run_underlying y,u,F,and_self,if_true,qaD L,w,f]
   .cases h
  .cases h
 .rename_i s;split at h
  .rename_i k W l;obtain⟨d,y,H⟩:=qaT W;simp only at H;subst H;cases A:s.data[k]? with
   | none=>simp[A] at h
   | some b=>
     simp only[A,Jp,Option.some.injEq] at h;subst h;refine .read λM N _ _ c=>⟨.int .u8 b.toNat,?_, .sc M _⟩;have q:=(c x (by simp[a,Ka]) _ D).sc_inv;obtain⟨S,m,r,u,F,w,T⟩:=qd5 l (c i (by simp[a,Ka]) _ E);simp only[execOp,a,q,r];have X:s[k]? =V b:=by
      obtain⟨j,a0⟩:=Array.getElem?_eq_some_iff.1 A;have:s[k]? =V (s[k]'j):=getElem?_pos s k j;rw[this];congr 1
     simp only[Instr.index,asIntOf,Km,Kn,Kp,run_underlying y,u,if_true,w,X]
  .cases h
 .cases h
def fextract(i:Nat):IV->Option FR
 | .tup c=>(c[i]?).map λx=> {x}
 | _=>U
def qpt{x i d fr}(f:o.op= .extract x i)(j:ρ x=V d)(h:fextract i d=V fr):fr.ok P o ρ:=by
 unfold fextract at h;split at h
 .rename_i g;cases a:g[i]? with
  | none=>grind
  | some z=>
    simp[a] at h;subst h;refine .read λM n _ _ k=>?_;obtain⟨v,e,l,m⟩:=(k x vk _ j).tup_inv;have b:i < v.length:=by
     grind
    refine⟨v[i],?_,m i z _ a (KS b)⟩;simp[execOp,f,e,Instr.extract,b]
 grind
end Go.Idl
namespace Go.Idl
variable{P:Program}{o:Oper}{ρ:Operand->Option IV}{G:Nat->Option IBlk}
def qr2{p:Nat->Nat->Value->Prop}(n sz)(h: ∀i,i < n-> ∀j,j < sz-> ∃u,p i j u):
  ∃f:Nat->Value,∀i,i < n-> ∀j,j < sz->p i j (f (i * sz+j)):=by
 have a: ∀k,∃u,k < n * sz->p (k / sz) (k % sz) u:=by
  intro k;by_cases b:k < n * sz
  .have c:0 < sz:=by
    grind
   obtain⟨u,l⟩:=h (k / sz) (KJ wg) (k % sz) (Kx _ c)
   grind
  .exact⟨undef,λh=>absurd h b⟩
 refine⟨λk=>JP (a k),λi m j g=>?_⟩;have c:0 < sz:=wa
 have e:=by
  calc i * sz+j < i * sz+sz:=by omega
   _=(i+1) * sz:=wg
   _<=n * sz:=Ks _ m
 have q:(i * sz+j) / sz=i:=by
  rw[Ku,Nat.mul_add_div c,Nat.div_eq_of_lt g,Ky]
 have r:(i * sz+j) % sz=j:=by
  rw[Ku,KA,KB g]
 grind
def qcd{i j n sz:Nat}(h:i < n)(a:j < sz):i * sz+j < n * sz:=by
 calc i * sz+j < i * sz+sz:=by omega
  _=(i+1) * sz:=wg
  _<=n * sz:=Ks _ h
def qfo{k n sz:Nat}(a:k < n * sz): ∃i j,i < n/\j < sz/\k=i * sz+j:=by
 have b:0 < sz:=by
  grind
 refine⟨k / sz,k % sz,KJ wg,Kx _ b,?_⟩;rw[Ku];exact(Nat.div_add_mod k sz).symm
def qcF(G:Nat->Option IBlk)(sz:Nat):IV->Option (List (List IV) × List (Nat × IBlk))
 | .p (.imm s r)=>if s=sz then V (r.map (·.map .p), []) else U
 | .p .emp=>V ([], [])
 | .p (.sc (.slice U 0 0))=>V ([], [])
 | .ref b g a l=>match G b with
   | some (.arr s c r)=>if g=c/\s=sz then V ((r.drop a).take l, [(b, .arr s c r)]) else U
   | _=>U
 | _=>U
structure qiQ(P:Program)(M:Mem)(sz:Nat)(rs:List (List IV))(v:Value)(a:Option Addr)(cap:Nat)(f:Nat->Value):Prop where
 val:v= .slice a rs.length cap
 cap_le:rs.length<=cap
 max:cap<=maxLen
 wid: ∀row∈rs,row.length=sz
 pre: ∀n,n<=rs.length->(Ju sz n v).run P M.w= .ok ((KZ (n * sz)).map f).toArray M.w
 rel: ∀(i:Nat) (row:List IV) (j:Nat) (x:IV),rs[i]? =V row->row[j]? =V x->(f (i * sz+j)).oneCell'=Y/\VRel M x (f (i * sz+j))
def qil{n sz}(h:0 < n * sz):0 < n/\0 < sz:=wg
def qiC{M sz}{rs:List (List IV)}{c o}(w: ∀r∈rs,r.length=sz)
  (s: ∀(i r j x),rs[i]? =V r->r[j]? =V x->
   ∃u,M.w.cell? ⟨c,o+(i * sz+j),U⟩=V u/\u.oneCell'=Y/\VRel M x u):
  ∃f:Nat->Value,(∀k,k < rs.length * sz->M.w.cell? ⟨c,o+k,U⟩=V (f k))/\
   ∀(i r j x),rs[i]? =V r->r[j]? =V x->(f (i * sz+j)).oneCell'=Y/\VRel M x (f (i * sz+j)):=by
 obtain⟨f,l⟩:=qr2 (p:=λi j u=>M.w.cell? ⟨c,o+(i * sz+j),U⟩=V u/\u.oneCell'=Y/\ ∀r x,rs[i]? =V r->r[j]? =V x->VRel M x u) rs.length sz (by
  intro i b j e;have d:=KS b;have m:=w _ (Jd b);have a:j < (rs[i]).length:=wa
  obtain⟨u,t,v,y⟩:=s i _ j _ d (KS a)
  grind)
 refine⟨f,λk z=>?_,λi r j x b e=>?_⟩
 .obtain⟨i,j,b,e,rfl⟩:=qfo z
  grind
 grind
def qeE{sz:Nat}{z:IV}{rs:List (List IV)}{R:List (Nat × IBlk)}(h:qcF G sz z=V (rs,R)){M:Mem}(hM:MRel M)
  (hR: ∀p∈R,M.H.G p.1=V p.2) {v:Value} (O:VRel M z v): ∃a cap f,qiQ P M sz rs v a cap f:=by
 unfold qcF at h;split at h
 .rename_i s d;split at h
  .rename_i hs;subst hs;simp only[Option.some.injEq,Prod.mk.injEq] at h;obtain⟨rfl,rfl⟩:=h;obtain⟨a,cap,c,F,e,S,T,W,H,h5⟩:=O.imm_inv;have w: ∀l∈d.map (·.map IV.p),l.length=s:=by
    intro l q;obtain⟨r,J,rfl⟩:=List.mem_map.1 q;obtain⟨i,m,e⟩:=Jj J;simpa using H i r (by rw[KS m,e])
   obtain⟨f,Q,X⟩:=qiC (M:=M) (c:=c) (o:=F) w (by
    intro i l j x m I;rw[K6] at m;cases J:d[i]? with
    | none=>simp[J] at m
    | some r=>
      simp[J] at m;subst m;rw[K6] at I;cases hx:r[j]? with
      | none=>simp[hx] at I
      | some y=>
        simp[hx] at I;subst I;obtain⟨u,u1,u2,u3⟩:=h5 i r j y J hx;exact⟨u,u1,u2, .p _ _ u3⟩)
   refine⟨a,cap,f,by simpa using e,by simpa using S,T,w,?_,X⟩;intro n B;simp only[Jk] at Q B;subst e;rcases KE d.length with C | C
   .have:n=0:=wa
    subst this;cases a with
    | none=>simp[Ju]
    | some a=>simp[Ju,loadCells,loadCellsFrom]
   .obtain⟨e3,_,_⟩:=W C;subst e3;have K:n * s<=d.length * s:=Ks _ B;exact run_loadCells (P:=P) M.w ⟨c,F,U⟩ (n * s) f (λk hk=>by rw[qbo];exact Q k wa)
  .cases h
 .simp only[Option.some.injEq,Prod.mk.injEq] at h;obtain⟨rfl,rfl⟩:=h;cases O with
  | p x v h=>
    cases h with
    | emp a=>exact⟨a,0,λ_=>undef,rfl,Kq _,Kv _,wb,λn B=>(by have C:n=0:=vg;subst C;cases a<;>simp[Ju,loadCells,loadCellsFrom]),wb⟩
 .simp only[Option.some.injEq,Prod.mk.injEq] at h;obtain⟨rfl,rfl⟩:=h;have e:=O.sc_inv;subst e;exact⟨U,0,λ_=>undef,rfl,Kq _,Kv _,wb,λn B=>(by have C:n=0:=vg;subst C;simp[Ju]),wb⟩
 .rename_i b g t A;split at h
  .rename_i s g' d hb;split at h
   .rename_i hg;obtain⟨rfl,rfl⟩:=hg;simp only[Option.some.injEq,Prod.mk.injEq] at h;obtain⟨rfl,rfl⟩:=h;have L:M.H.G b=V (.arr s g d):=hR (b,_) wb;obtain⟨a,cap,e,S,T,W,H⟩:=O.ref_inv L rfl;simp only[IBlk.len] at T W;simp only[IBlk.sz] at H;have D:((d.drop t).take A).length=A:=vn
    have E:=hM.blk b _ L;have w: ∀l∈(d.drop t).take A,l.length=s:=λl q=>E.1 l (K3 (KW q))
    rcases H with H | ⟨c,F,n,N,e3,h5⟩
    .have:A=0:=wa
     subst this;exact⟨a,cap,λ_=>undef,by simpa using e,wb,by rw[H];exact Kv _,wb,λn B=>(by have C:n=0:=vg;subst C;subst e;cases a<;>simp[Ju,loadCells,loadCellsFrom]),wb⟩
    .subst e3;obtain⟨f,Q,X⟩:=qiC (M:=M) (c:=c) (o:=F+t * s) w (by
      intro i l j x m I;rw[KR] at m;split at m
      .rw[KT] at m;obtain⟨u,u1,u2,u3⟩:=E.row m N j x I;exact⟨u,by rw[<-u1];congr 2;rw[Kr];omega,u2,u3⟩
      .cases m)
     obtain⟨_,_,_,_,a0,_⟩:=E.2.2 c F n N;refine⟨_,cap,f,by rw[D];exact e,by rw[D];exact S,by unfold maxLen at *;omega,w,?_,X⟩;intro n B;subst e;have K:n * s<=((d.drop t).take A).length * s:=Ks _ B;exact run_loadCells (P:=P) M.w ⟨c,F+t * s,U⟩ _ f (λk hk=>by rw[qbo];exact Q k wa)
   .cases h
  .cases h
 .cases h
def flen(G:Nat->Option IBlk):IV->Option FR
 | .p (.imm _ r)=>V {x:=sci .i64 r.length}
 | .p .emp=>V {x:=sci .i64 0}
 | .p (.sc (.slice U n _))=>V {x:=sci .i64 n}
 | .p (.sc (.string s))=>V {x:=sci .i64 s.size}
 | .p (.sc (.map U))=>V {x:=sci .i64 0}
 | .ref _ _ _ l=>V {x:=sci .i64 l}
 | .mp b=>match G b with
   | some (.mp e)=>V {x:=sci .i64 e.length,R:= [(b, .mp e)]}
   | _=>U
 | _=>U
def qef(P:Program)(t:TypeId):IV->Bool
 | .p (.imm ..) | .p .emp | .ref .. | .p (.sc (.slice ..))=>match tkd P t with | some (.slice _)=>Y | _=>Z
 | .p (.sc (.string _))=>tkd P t==V .string
 | .mp _ | .p (.sc (.map _))=>match tkd P t with | some (.map _ _)=>Y | _=>Z
 | _=>Z
def qro{t e}(h:tkd P t=V (.slice e))(ty a n c w):
  (Jx #[t] ty #[.slice a n c]).run P w= .ok (.int .i64 n) w:=by
 obtain⟨d,f,b⟩:=qaT h;cases b;simp[Jx,run_underlying f,goInt]
def f_len{x:Operand}{t:TypeId}{zx:IV}{fr:FR}(j:o.op= .call {callee:= .builtin .len,args:=#[x],argTypes:=#[t]})(A:ρ x=V zx)
  (k:qef P t zx=Y) (h:flen G zx=V fr):fr.ok P o ρ:=by
 have l: ∀(a:Option Addr) (n c:Nat),(∃e,tkd P t=V (.slice e))-> ∀(f:Act) (w:World),f.eval x= .slice a n c->
   (execOp f.eval o).run P w= .ok (.value (.int .i64 n)) w:=by
  intro a n c ⟨e,I⟩ f w r;have:=qro I o.type a n c w;simp[execOp,j,resolve,invoke,builtin,r,this]
 have m: ∀b:Bool,(match tkd P t with | some (.slice _)=>Y | _=>Z)=Y-> ∃e,tkd P t=V (.slice e):=by
  intro _ h;split at h
  .rename_i e I;exact⟨e,I⟩
  .cases h
 unfold flen at h;split at h
 .rename_i s R;simp only[Option.some.injEq] at h;subst h;refine .read λM f B C i=>⟨_,?_, .sc M _⟩;obtain⟨a,D,c,S,e,_⟩:=(i x wl _ A).imm_inv;exact l a _ D (m Y k) f M.w e
 .simp only[Option.some.injEq] at h;subst h;refine .read λM f B C i=>⟨_,?_, .sc M _⟩;have r:=i x wl _ A;generalize T:f.eval x=q at r;cases r with
  | p y v h=>
    cases h with
    | emp a=>exact l a 0 0 (m Y k) f M.w T
 .rename_i n c;simp only[Option.some.injEq] at h;subst h;refine .read λM f B C i=>⟨_,?_, .sc M _⟩;exact l U n c (m Y k) f M.w (i x wl _ A).sc_inv
 .rename_i s;simp only[Option.some.injEq] at h;subst h;refine .read λM f B C i=>⟨_,?_, .sc M _⟩;have e:=(i x wl _ A).sc_inv;have J:tkd P t=V .string:=by simpa[qef] using k
  obtain⟨d,F,u⟩:=qaT J;simp only at u;subst u;simp[execOp,j,resolve,invoke,builtin,e,Jx,run_underlying F,goInt]
 .simp only[Option.some.injEq] at h;subst h;refine .read λM f B C i=>⟨_,?_, .sc M _⟩;have e:=(i x wl _ A).sc_inv;simp only[qef] at k;split at k
  .rename_i W X K;obtain⟨d,F,u⟩:=qaT K;simp only at u;subst u;simp[execOp,j,resolve,invoke,builtin,e,Jx,run_underlying F,goInt]
  .cases k
 .rename_i b g a0 L;simp only[Option.some.injEq] at h;subst h;refine .read λM f B C i=>⟨_,?_, .sc M _⟩;obtain⟨a,D,e⟩:=(i x wl _ A).ref_any;exact l a L D (m Y k) f M.w e
 .rename_i b;split at h
  .rename_i es hb;simp only[Option.some.injEq] at h;subst h;refine .read λM f B C i=>⟨_,?_, .sc M _⟩;have H:M.H.G b=V (.mp es):=C (b,_) wb;obtain⟨c,S,n,N,O,E,h1,h2,_⟩:=B.blk b _ H;have r:=i x wl _ A;have e:f.eval x= .map (V c):=by
    generalize f.eval x=q at r;cases r with
    | mp b v hA r h=>
      obtain⟨_,c',o2,n2,z,Q⟩:=h _ H;rw[N] at z;cases z;exact Q
   simp only[qef] at k;split at k
   .rename_i W X K;obtain⟨d,F,u⟩:=qaT K;simp only at u;subst u;have hg:(getObj c).run P M.w= .ok (.map O E) M.w:=by simp[getObj,Ko,h1]
    simp[execOp,j,resolve,invoke,builtin,e,Jx,run_underlying F,goInt,hg,h2]
   .cases k
  .cases h
 .cases h
end Go.Idl
namespace Go.Idl
variable{P:Program}{o:Oper}{ρ:Operand->Option IV}{G:Nat->Option IBlk}
def sbd(i:Option IV)(y d:Nat):Option Nat:=
 match i with
 | none=>V d
 | some (.p (.sc (.int _ n)))=>if 0<=n/\n<=y then V n.toNat else U
 | _=>U
def sbds(a b:Option IV)(y:Nat):Option (Nat × Nat):=
 match sbd b y y with
 | some h=>(sbd a h 0).map λl=>(l,h)
 | none=>U
def qeX(P:Program)(G:Nat->Option IBlk)(t:TypeId)(x:IV)(a c mx:Option IV):Option FR:=
 match mx with
 | none=>match x with
   | .p (.imm s r)=>match(tel P t).bind (tsz P ·),sbds a c r.length with
     | some n,V (l,h)=>if n=s then V {x:= .p (.imm s ((r.drop l).take (h - l)))} else U
     | _,_=>U
   | .ref b g d e=>match(tel P t).bind (tsz P ·),sbds a c e,G b with
     | some n,V (l,h),V (.arr s f r)=>if g=f/\n=s then V {x:= .ref b g (d+l) (h - l),R:= [(b, .arr s f r)]} else U
     | _,_,_=>U
   | .p .emp=>match(tel P t).bind (tsz P ·),sbds a c 0 with
     | some _,V _=>V {x:= .p .emp}
     | _,_=>U
   | .p (.sc (.slice U 0 0))=>match(tel P t).bind (tsz P ·),sbds a c 0 with
     | some _,V _=>V {x:= .p (.sc (.slice U 0 0))}
     | _,_=>U
   | .p (.sc (.string s))=>match tkd P t,sbds a c s.size with
     | some .string,V (l,h)=>V {x:= .p (.sc (.string (s.extract l h)))}
     | _,_=>U
   | _=>U
 | some m=>match(tel P t).bind (tsz P ·),x,sbd (V m) 0 0,sbd c 0 1,sbd a 0 0 with
   | some _, .p (.imm ..),V 0,V 0,V 0 | some _, .ref ..,V 0,V 0,V 0 | some _, .p .emp,V 0,V 0,V 0=>V {x:= .p .emp}
   | some _, .p (.sc (.slice U 0 0)),V 0,V 0,V 0=>V {x:= .p (.sc (.slice U 0 0))}
   | _,_,_,_,_=>U
def qbk{M i v y d k code}(h:sbd (V i) y d=V k)(b:VRel M i v)(z)(c:y<=z)(w):
  (Instr.sliceBound v z code).run P w= .ok k w/\k<=y:=by
 unfold sbd at h;split at h
 .grind
 .rename_i f n e;cases e;split at h
  .simp at h;have:=b.sc_inv;refine⟨?_,wa⟩;have a:0<=n/\n<=(z):=wa
   simp_all[Instr.sliceBound,asIntOf]
  grind
 grind
def qdg{M j k a b y l h}(m:sbds j k y=V (l,h))(r c)(A:y<=c)
  (s: ∀i,j=V i-> ∃v,a=V v/\VRel M i v) (t:j=U->a=U)
  (u: ∀i,k=V i-> ∃v,b=V v/\VRel M i v) (x:k=U->b=U) (w):
  (Instr.sliceBounds r y c a b U).run P w= .ok (l,h,c) w/\l<=h/\h<=y:=by
 unfold sbds at m;cases f:sbd k y y with
 | none=>grind
 | some d=>
   cases g:sbd j d 0 with
   | none=>grind
   | some z=>
     simp[f,g,Jp,Option.some.injEq,Prod.mk.injEq] at m;have H:d<=y/\((b=U/\d=y)\/ ∃v,b=V v/\ ∀code,(Instr.sliceBound v c code).run P w= .ok d w):=by
      cases k with
      | none=>
        simp_all[sbd]
      | some i=>
        obtain⟨v,e,n⟩:=u i rfl;exact⟨(qbk (P:=P) (code:= .index) f n c A w).2, .inr ⟨v,e,λcode=>(qbk f n c A w).1⟩⟩
     have B:z<=d/\((a=U/\z=0)\/ ∃v,a=V v/\ ∀code,(Instr.sliceBound v d code).run P w= .ok z w):=by
      cases j with
      | none=>
        grind[sbd]
      | some i=>
        obtain⟨v,e,n⟩:=s i rfl;exact⟨(qbk (P:=P) (code:= .index) g n d (Kq _) w).2, .inr ⟨v,e,λcode=>(qbk g n d (Kq _) w).1⟩⟩
     unfold Instr.sliceBounds;rcases H.2 with ⟨C,p⟩ | ⟨E,C,p⟩<;>rcases B.2 with ⟨D,q⟩ | ⟨F,D,q⟩<;>subst C<;>subst D<;>simp_all
def qd7{t n}(h:(tel P t).bind (tsz P ·)=V n): ∃e,tel P t=V e/\tsz P e=V n:=by
 cases a:tel P t with
 | none=>grind
 | some e=>grind
def qbz{t e n}(d:tel P t=V e)(f:tsz P e=V n){a len cap l h m v b c w}
  (g:(Instr.sliceBounds Y len cap v b c).run P w= .ok (l,h,m) w):
  (Instr.sliceAt t (.slice a len cap) v b c).run P w= .ok (.slice (if m=l then a else a.map (·.add (l * n))) (h - l) (m - l)) w:=by
 have i:=und_tel d;simp[Instr.sliceAt,Instr.slice,run_underlying i,g,qaD f]
def qiZ{M}(a:Act){x z}(c: ∀y,x=V y-> ∃i,z=V i/\ρ y=V i)(d:x=U->z=U)
  (e: ∀y,x=V y-> ∀i,ρ y=V i->VRel M i (a.eval y)):
  (∀i,z=V i-> ∃v,x.map a.eval=V v/\VRel M i v)/\(z=U->x.map a.eval=U):=by cases x<;>grind
def ropt(ρ:Operand->Option IV):Option Operand->Option (Option IV)
 | none=>V U
 | some y=>(ρ y).map V
def qc8{x z}(h:ropt ρ x=V z):(∀y,x=V y-> ∃i,z=V i/\ρ y=V i)/\(x=U->z=U):=by
 cases x with
 | none=>simp_all[ropt]
 | some y=>
   cases a:ρ y with
   | none=>simp[ropt,a] at h
   | some i=>grind[ropt]
def qrZ{t:TypeId}{x:Operand}{lo F mx:Option Operand}{zx:IV}{N O a2:Option IV}{fr:FR}(ho:o.op= .slice t x lo F mx)
  (hx:ρ x=V zx) (C:ropt ρ lo=V N) (w:ropt ρ F=V O) (a7:ropt ρ mx=V a2) (h:qeX P G t zx N O a2=V fr):fr.ok P o ρ:=by
 have H: ∀(M:Mem) (a:Act),(∀y∈o.op.operands,∀z,ρ y=V z->VRel M z (a.eval y))->
   VRel M zx (a.eval x)/\((∀i,N=V i-> ∃v,lo.map a.eval=V v/\VRel M i v)/\(N=U->lo.map a.eval=U))/\
   ((∀i,O=V i-> ∃v,F.map a.eval=V v/\VRel M i v)/\(O=U->F.map a.eval=U))/\
   ((∀i,a2=V i-> ∃v,mx.map a.eval=V v/\VRel M i v)/\(a2=U->mx.map a.eval=U)):=by
  intro M a A;refine⟨A x (by simp[ho,Ka]) _ hx,?_,?_,?_⟩
  .exact qiZ a (qc8 C).1 (qc8 C).2 λy hy i F=>A y (by simp[ho,Ka,hy]) i F
  .exact qiZ a (qc8 w).1 (qc8 w).2 λy hy i F=>A y (by simp[ho,Ka,hy]) i F
  .exact qiZ a (qc8 a7).1 (qc8 a7).2 λy hy i F=>A y (by simp[ho,Ka,hy]) i F
 unfold qeX at h;split at h
 ·
  split at h
  .rename_i s E;split at h
   .rename_i n l Q B hb;split at h
    .rename_i hs;subst hs;simp only[Option.some.injEq] at h;subst h;obtain⟨e,he,B⟩:=qd7 B;refine .read λM a hM hR A=>?_;obtain⟨D,⟨R,S⟩,⟨T,h2⟩,⟨m1,m2⟩⟩:=H M a A;obtain⟨I,r,c,o',J,g1,g2,g3,g4,g5⟩:=D.imm_inv;obtain⟨f,a3,K⟩:=qdg (P:=P) hb Y r g1 R S T h2 M.w;have k:=qbz (P:=P) he B (a:=I) (len:=E.length) f;refine⟨_,by simp only[execOp,ho,J,m2 rfl];rw[Km,k];rfl,?_⟩;have W:((E.drop l).take (Q - l)).length=Q - l:=vn
     have a8:PRel M.w M.own (.imm n ((E.drop l).take (Q - l))) (.slice (if r=l then I else I.map (·.add (l * n))) ((E.drop l).take (Q - l)).length (r - l)):=by
      refine .mk_imm (c:=c) (o:=o'+l * n) (by rw[W];omega) wa ?_ ?_ ?_
      .intro h0;rw[W] at h0;obtain⟨q1,q2,q3⟩:=g3 wa;rw[if_neg wa,q1];exact⟨by simp[qbo],q2,q3⟩
      .intro i a5 F;rw[KR] at F;split at F
       .rw[KT] at F;exact g4 _ a5 F
       .cases F
      .intro i a5 j x F hj;rw[KR] at F;split at F
       .rw[KT] at F;obtain⟨u,u1,u2,u3⟩:=g5 _ a5 j x F hj;exact⟨u,by rw[<-u1];congr 2;rw[Kr];omega,u2,u3⟩
       .cases F
     rw[W] at a8;exact .p _ _ a8
    .cases h
   .cases h
  .rename_i b g a9 len;split at h
   .rename_i n l Q s g' E B hb hG;split at h
    .rename_i hg;obtain⟨rfl,rfl⟩:=hg;simp only[Option.some.injEq] at h;subst h;obtain⟨e,he,B⟩:=qd7 B;refine .read λM a hM hR A=>?_;obtain⟨D,⟨R,S⟩,⟨T,h2⟩,⟨m1,m2⟩⟩:=H M a A;have a6:M.H.G b=V (.arr n g E):=hR (b,_) wb;obtain⟨I,r,J,q1,q2,q3,q4⟩:=D.ref_inv a6 rfl;simp only[IBlk.len,IBlk.sz] at q2 q3 q4;obtain⟨f,a3,K⟩:=qdg (P:=P) hb Y r q1 R S T h2 M.w;have k:=qbz (P:=P) he B (a:=I) (len:=len) f;refine⟨_,by simp only[execOp,ho,J,m2 rfl];rw[Km,k];rfl,?_⟩;refine .ref b g (a9+l) (Q - l) _ (hM.dom b _ a6) ⟨_,_,rfl⟩ λb5 a4=>?_;rw[a6] at a4;cases a4;refine⟨Kq _,λ_=>⟨_,_,rfl,wa,wM,wM,?_⟩⟩;rcases q4 with q4 | ⟨c,o',n',q5,q6,q7⟩
     .exact .inl wa
     .by_cases b0:r=l
      .exact .inl wa
      .refine .inr ⟨c,o',n',q5,?_,wa⟩;rw[if_neg b0,q6];simp only[Jp,qbo,IBlk.sz];congr 2;rw[Kr];omega
    .cases h
   .cases h
  .split at h
   .rename_i n lh B hb;obtain⟨l,Q⟩:=lh;simp only[Option.some.injEq] at h;subst h;obtain⟨e,he,B⟩:=qd7 B;refine .read λM a hM hR A=>?_;obtain⟨D,⟨R,S⟩,⟨T,h2⟩,⟨m1,m2⟩⟩:=H M a A;generalize X:a.eval x=q at D;cases D with
    | p y v h=>
      cases h with
      | emp I=>
        obtain⟨f,a3,K⟩:=qdg (P:=P) hb Y 0 (Kq _) R S T h2 M.w;have k:=qbz (P:=P) he B (a:=I) (len:=0) f;have e0:Q=0:=wa
        have J:l=0:=wa
        subst e0;subst J;refine⟨.slice I 0 0,by simp only[execOp,ho,X,m2 rfl];rw[Km,k];rfl, .p _ _ (.emp I)⟩
   .cases h
  .split at h
   .rename_i n lh B hb;obtain⟨l,Q⟩:=lh;simp only[Option.some.injEq] at h;subst h;obtain⟨e,he,B⟩:=qd7 B;refine .read λM a hM hR A=>?_;obtain⟨D,⟨R,S⟩,⟨T,h2⟩,⟨m1,m2⟩⟩:=H M a A;have X:=D.sc_inv;obtain⟨f,a3,K⟩:=qdg (P:=P) hb Y 0 (Kq _) R S T h2 M.w;have k:=qbz (P:=P) he B (a:=U) (len:=0) f;have e0:Q=0:=wa
    have J:l=0:=wa
    subst e0;subst J;refine⟨.slice U 0 0,by simp only[execOp,ho,X,m2 rfl];rw[Km,k];rfl, .sc M _⟩
   .cases h
  .rename_i s;split at h
   .rename_i l Q ht hb;simp only[Option.some.injEq] at h;subst h;obtain⟨d,hu,hd⟩:=qaT ht;simp only at hd;subst hd;refine .read λM a hM hR A=>?_;obtain⟨D,⟨R,S⟩,⟨T,h2⟩,⟨m1,m2⟩⟩:=H M a A;have X:=D.sc_inv;obtain⟨f,a3,K⟩:=qdg (P:=P) hb Z s.size (Kq _) R S T h2 M.w;refine⟨.string (s.extract l Q),?_, .sc M _⟩;simp only[execOp,ho,X,m2 rfl];simp only[Instr.sliceAt,Instr.slice,Km,run_underlying hu,Kp,Option.isSome_none,JQ,if_false,f,Kn]
   .cases h
  .cases h
 ·
  rename_i m;have L: ∀(n:Nat) (B:(tel P t).bind (tsz P ·)=V n) (hm:sbd (V m) 0 0=V 0) (w:sbd O 0 1=V 0) (C:sbd N 0 0=V 0) (M:Mem) (a:Act) (I:Option Addr) (len r:Nat),
    (∀y∈o.op.operands,∀z,ρ y=V z->VRel M z (a.eval y))->a.eval x= .slice I len r->
    ∃a1,(I=U->a1=U)/\(execOp a.eval o).run P M.w= .ok (.value (.slice a1 0 0)) M.w:=by
   intro n B hm w C M a I len r A X;obtain⟨e,he,B⟩:=qd7 B;obtain⟨_,⟨R,S⟩,⟨T,h2⟩,⟨m1,m2⟩⟩:=H M a A;obtain⟨vm,J,r1⟩:=m1 m rfl;cases O with
   | none=>simp[sbd] at w
   | some ih=>
     obtain⟨vh,e2,r2⟩:=T ih rfl;have b1:=(qbk (P:=P) (code:= .slice3Acap) hm r1 r (Kv _) M.w).1;have b2:=(qbk (P:=P) (code:= .slice3B) w r2 0 (Kq _) M.w).1;have b3:(lo.map a.eval=U)\/ ∃v,lo.map a.eval=V v/\ ∀code,(Instr.sliceBound v 0 code).run P M.w= .ok 0 M.w:=by
      cases N with
      | none=>exact .inl (S rfl)
      | some il=>
        obtain⟨vl,e3,r3⟩:=R il rfl;exact .inr ⟨vl,e3,λcode=>(qbk (P:=P) C r3 0 (Kq _) M.w).1⟩
     have b4:(Instr.sliceBounds Y len r (lo.map a.eval) (V vh) (V vm)).run P M.w= .ok (0,0,0) M.w:=by
      unfold Instr.sliceBounds;rcases b3 with e3 | ⟨vl,e3,e4⟩
      .rw[e3];simp[b1,b2]
      .rw[e3];simp[b1,b2,e4]
     have k:=qbz (P:=P) he B (a:=I) (len:=len) b4;refine⟨I,λh=>h,?_⟩;simp only[execOp,ho,X,J,e2];rw[Km,k];rfl
  split at h
  .rename_i n s E B hm w C;simp only[Option.some.injEq] at h;subst h;refine .read λM a hM hR A=>?_;obtain⟨I,r,c,o',J,_⟩:=((H M a A).1).imm_inv;obtain⟨a1,_,f⟩:=L n B hm w C M a I _ r A J;exact⟨_,f, .p _ _ (.emp a1)⟩
  .rename_i n b g a9 len B hm w C;simp only[Option.some.injEq] at h;subst h;refine .read λM a hM hR A=>?_;obtain⟨I,r,J⟩:=((H M a A).1).ref_any;obtain⟨a1,_,f⟩:=L n B hm w C M a I _ r A J;exact⟨_,f, .p _ _ (.emp a1)⟩
  .rename_i n B hm w C;simp only[Option.some.injEq] at h;subst h;refine .read λM a hM hR A=>?_;have D:=(H M a A).1;generalize X:a.eval x=q at D;cases D with
   | p y v h=>
     cases h with
     | emp I=>
       obtain⟨a1,_,f⟩:=L n B hm w C M a I 0 0 A X;exact⟨_,f, .p _ _ (.emp a1)⟩
  .rename_i n B hm w C;simp only[Option.some.injEq] at h;subst h;refine .read λM a hM hR A=>?_;have X:=((H M a A).1).sc_inv;obtain⟨a1,J,f⟩:=L n B hm w C M a U 0 0 A X;rw[J rfl] at f;exact⟨_,f, .sc M _⟩
  .cases h
def rlist(ρ:Operand->Option IV):List Operand->Option (List IV)
 | []=>V []
 | y::r=>match ρ y,rlist ρ r with
   | some z,V a=>V (z::a)
   | _,_=>U
def qbt{M}{a:Act}: ∀ {ys zs},rlist ρ ys=V zs->(∀y∈ys,∀z,ρ y=V z->VRel M z (a.eval y))->
  (ys.map a.eval).length=zs.length/\ ∀(i:Nat) (x v),zs[i]? =V x->(ys.map a.eval)[i]? =V v->VRel M x v
 | [],zs,h,_=>by
   simp_all[rlist]
 | y::r,zs,h,f=>by
   unfold rlist at h;split at h
   .rename_i z j k d;obtain⟨g,l⟩:=qbt d λm e=>f m (K7 _ e)
    grind
   grind
def f_func{fn first cap z b}(h:o.op= .makeFunc fn ⟨first⟩ ⟨cap⟩)(e:rlist ρ first=V z)(f:rlist ρ cap=V b):
  qbl P o ρ [] [] (.clo fn z b) []:=by
 refine .read λM a _ _ d=>?_;obtain⟨g,i⟩:=qbt (M:=M) (a:=a) e λy c=>d y (by simp[h,Ka,c]);obtain⟨j,k⟩:=qbt (M:=M) (a:=a) f λy c=>d y (by simp[h,Ka,c]);exact⟨.func fn ⟨first.map a.eval⟩ ⟨cap.map a.eval⟩,by simp[execOp,h,Instr.makeFunc], .clo fn z b _ _ g j i k⟩
def scs:List IV->Option (List Value)
 | []=>V []
 | .p (.sc v)::r=>(scs r).map (v::·)
 | _=>U
def qdv{M}: ∀ {cs vs us},scs cs=V vs->us.length=cs.length->
  (∀(i:Nat) (x v),cs[i]? =V x->us[i]? =V v->VRel M x v)->us=vs
 | [],vs,us,h,a,_=>by simp_all[scs]
 | x::r,vs,us,h,a,d=>by
   cases us with
   | nil=>grind
   | cons u us=>
     unfold scs at h;split at h
     .grind
     .rename_i v n e;injection e with f g
      subst f;subst g;cases c:scs r with
      | none=>grind
      | some j=>
        simp[c,Jp] at h;subst h;have b:=d 0 _ u rfl rfl;have k:=qdv (M:=M) (us:=us) c wg λi x v l m=>d (i+1) x v wg wg
        rw[b.sc_inv,k]
     grind
def qeT(P:Program)(t:TypeId):IV->Option FR
 | .p (.sc v)=>match tkd P t with
   | some .iface=>U
   | some _=>V {x:= .p (.sc (.iface t v))}
   | none=>U
 | .agg c=>match tkd P t,scs c with
   | some .iface,_=>U
   | some _,V a=>V {x:= .p (.sc (.iface t (.agg ⟨a⟩)))}
   | _,_=>U
 | _=>U
def qht{t k}(h:tkd P t=V k)(b:k≠ .iface)(v w):(Instr.makeInterface t v).run P w= .ok (.iface t v) w:=by
 unfold tkd at h;cases a:P.underlying t with
 | none=>grind
 | some d=>
   unfold Instr.makeInterface;rw[Km,run_underlying a];cases d<;>first | rfl | grind
def f_iface{t x z fr}(c:o.op= .makeInterface t x)(g:ρ x=V z)(h:qeT P t z=V fr):fr.ok P o ρ:=by
 unfold qeT at h;split at h
 .split at h
  .grind
  .rename_i k b d;cases h;refine .read λM a _ _ f=>⟨_,?_, .sc M _⟩;have e:=(f x w0 _ g).sc_inv;simp only[execOp,c,e];rw[Km,qht d b];rfl
  simp_all
 .split at h
  .grind
  .rename_i k n b d i;cases h;refine .read λM a _ _ f=>⟨_,?_, .sc M _⟩;obtain⟨u,e,j,_,l⟩:=(f x w0 _ g).agg_inv;have:=qdv i j l;subst this;simp only[execOp,c,e];rw[Km,qht d b];rfl
  simp_all
 simp_all
def fnil:IV->Option FR
 | .ptr b g r j=>V {x:= .ptr b g r j}
 | .p (.rp c)=>V {x:= .p (.rp c)}
 | .clo (.func f) first a=>V {x:= .clo (.func f) first a}
 | .p (.sc (.func (.func f) first a))=>V {x:= .p (.sc (.func (.func f) first a))}
 | _=>U
def f_nil{x:Operand}{z:IV}{fr:FR}(i:o.op= .nilCheck x)(m:ρ x=V z)(h:fnil z=V fr):fr.ok P o ρ:=by
 unfold fnil at h;split at h
 .rename_i b g r j;simp only[Option.some.injEq] at h;subst h;refine .read λM a _ _ k=>?_;have d:=k x ws _ m;obtain⟨c,p,e⟩:=d.ptr_any;simp_all[execOp]
 .rename_i n;simp only[Option.some.injEq] at h;subst h;refine .read λM a _ _ k=>?_;have d:=k x ws _ m;obtain⟨c,p,e,_⟩:=d.rp_inv;simp_all[execOp]
 .rename_i f first l;simp only[Option.some.injEq] at h;subst h;refine .read λM a _ _ k=>?_;have d:=k x ws _ m;refine⟨a.eval x,?_,d⟩;generalize s:a.eval x=q at d;cases d<;>simp_all[execOp]
 .rename_i f first l;simp only[Option.some.injEq] at h;subst h;refine .read λM a _ _ k=>?_;have d:=k x ws _ m;refine⟨a.eval x,?_,d⟩;have e:=d.sc_inv;simp[execOp,i,e]
 simp_all
def imax:Value->List Value->Option Value
 | v, []=>V v
 | .int k x, .int a y::r=>if k=a then imax (.int k (if x < y then y else x)) r else U
 | _,_=>U
def imin:Value->List Value->Option Value
 | v, []=>V v
 | .int k x, .int a y::r=>if k=a then imin (.int k (if y < x then y else x)) r else U
 | _,_=>U
def ql2: ∀(l v u w),imax v l=V u->(l.foldlM JB v).run P w= .ok u w
 | [],v,u,w,h=>by simp_all[imax]
 | y::r,v,u,w,h=>by
   unfold imax at h;split at h
   .grind
   .rename_i k x f g i e;injection e with b c
    subst c;split at h
    .have:=ql2 r _ u w h;simp_all[JB]
    grind
   grind
def ql3: ∀(l v u w),imin v l=V u->(l.foldlM JC v).run P w= .ok u w
 | [],v,u,w,h=>by simp_all[imin]
 | y::r,v,u,w,h=>by
   unfold imin at h;split at h
   .grind
   .rename_i k x f g i e;injection e with b c
    subst c;split at h
    .have:=ql3 r _ u w h;simp_all[JC]
    grind
   grind
def fmax(mx:Bool)(zs:List IV):Option FR:=
 match scs zs with
 | some (v::a)=>(if mx then imax v a else imin v a).map λu=> {x:= .p (.sc u)}
 | _=>U
def f_max{mx:Bool}{args ts zs fr}(c:o.op= .call {callee:= .builtin (if mx then .max else .min),args:=⟨args⟩,argTypes:=ts})
  (f:rlist ρ args=V zs) (h:fmax mx zs=V fr):fr.ok P o ρ:=by
 unfold fmax at h;split at h
 .rename_i v d g;cases b:(if mx then imax v d else imin v d) with
  | none=>simp_all
  | some u=>
    simp[b,Jp,Option.some.injEq] at h;subst h;refine .read λM a _ _ i=>⟨u,?_, .sc M u⟩;obtain⟨j,k⟩:=qbt (M:=M) (a:=a) f λy l=>i y (by
     simp_all[Ka,Call.operands])
    have e:=qdv g j k;cases mx
    .simp[JQ,if_false] at b c;simp[execOp,c,resolve,invoke,builtin,Km,Kn,Kp,Builtin.min_,K0,e];rw[ql3 d v u M.w b];rfl
    .simp[if_true] at b c;simp[execOp,c,resolve,invoke,builtin,Km,Kn,Kp,Builtin.max_,K0,e];rw[ql2 d v u M.w b];rfl
 simp_all
end Go.Idl
namespace Go.Idl
variable{P:Program}{o:Oper}{ρ:Operand->Option IV}{G:Nat->Option IBlk}
def qbx:IV->Option (List IV)
 | .agg c=>V c
 | .p (.sc v)=>if v.oneCell' then V [.p (.sc v)] else U
 | .tup _=>U
 | .dead=>U
 | x=>V [x]
structure qaO(M:Mem)(cs:List IV)(vs:List Value):Prop where
 len:vs.length=cs.length
 one: ∀v∈vs,v.oneCell'=Y
 rel: ∀(i:Nat) (x:IV) (v:Value),cs[i]? =V x->vs[i]? =V v->VRel M x v
def qaO.get{M cs vs}(h:qaO M cs vs){i:Nat}{x}(b:cs[i]? =V x): ∃v,vs[i]? =V v/\v.oneCell'=Y/\VRel M x v:=by
 have a:i < vs.length:=by
  rw[h.len]
  grind
 exact⟨vs[i],KS a,h.one _ (Jd a),h.rel i x _ b (KS a)⟩
def qaO.step{M M' cs vs}(h:qaO M cs vs)(s:qaf M M'):qaO M' cs vs:=
 ⟨h.len,h.one,λi x v a b=>(h.rel i x v a b).step s⟩
def qaO.one_{M x v}(b:v.oneCell'=Y)(c:VRel M x v):qaO M [x] [v]:=
 ⟨rfl,wg,λi y u h a=>by
  grind⟩
def qhy{M x cs v}(h:qbx x=V cs)(u:VRel M x v): ∃vs:List Value,v.cells=⟨vs⟩/\qaO M cs vs:=by
 have d:v.oneCell'=Y->cs= [x]-> ∃vs:List Value,v.cells=⟨vs⟩/\qaO M cs vs:=by
  intro l e;subst e;refine⟨[v],?_, .one_ l u⟩;cases v<;>first | rfl | (simp[Value.oneCell'] at l)
 cases u with
 | p y v n=>
   cases n with
   | sc v=>
     simp_all[qbx]
   | emp a=>simp[qbx,Option.some.injEq] at h;exact d rfl h.symm
   | imm F w a m c o f q H B I z C=>simp[qbx,Option.some.injEq] at h;exact d rfl h.symm
   | rp s c o f B z C=>simp[qbx,Option.some.injEq] at h;exact d rfl h.symm
   | nan k b J=>simp[qbx,Option.some.injEq] at h;exact d rfl h.symm
 | ref b g D E v A i n=>obtain⟨a,m,rfl⟩:=i;simp[qbx,Option.some.injEq] at h;exact d rfl h.symm
 | ptr b g r j v A i n=>obtain⟨c,K,rfl⟩:=i;simp[qbx,Option.some.injEq] at h;exact d rfl h.symm
 | mp b v A i n=>obtain⟨k,c,rfl⟩:=i;simp[qbx,Option.some.injEq] at h;exact d (qr7 k c) h.symm
 | clo L first m N O Q z R S=>simp[qbx,Option.some.injEq] at h;exact d rfl h.symm
 | agg t vs q l r=>cases h;exact⟨vs,rfl,q,l,r⟩
 | tup t vs q r=>simp[qbx] at h
 | dead v=>simp[qbx] at h
def qcK(H:AH)(b blk):H.upd [(b,blk)]=H.put b blk:=rfl
def qnt{M}(d:MRel M){b}(e: ¬M.H.A b){cs vs}(h:qaO M cs vs)(ty):
  ∃M':Mem,M'.w=M.w.alloc (.cells ⟨vs⟩ ty)/\qaf M M'/\MRel M'/\M'.H=M.H.put b (.arr cs.length 0 [cs])/\VRel M' (.ptr b 0 0 0) (.pointer (V ⟨M.w.heap.size,0,U⟩)):=by
 obtain⟨s,r⟩:=qdt d b e cs.length 0 1 [cs] ⟨vs⟩ ty wb wb wt (qbn.all (by simp[h.len]) (by simpa using h.one)) (by
  intro i f j x c g;cases i with
  | zero=>
    cases c;obtain⟨v,k,l,m⟩:=h.get g
    grind
  | succ i=>grind)
 refine⟨_,rfl,s,r,rfl, .ptr b 0 0 0 _ (.inr rfl) ⟨_,_,rfl⟩ λn a=>?_⟩;simp[AH.put] at a;subst a;exact⟨Kq _,λ_=>⟨M.w.heap.size,0,1,wr,wb⟩⟩
def fbox(nx:Nat)(x:IV):Option FR:=(qbx x).map λc=> {x:= .ptr nx 0 0 0,F:= [nx],W:= [(nx, .arr c.length 0 [c])]}
def f_box{t x zx nx fr}(d:o.op= .box t x)(f:ρ x=V zx)(h:fbox nx zx=V fr):fr.ok P o ρ:=by
 unfold fbox at h;cases b:qbx zx with
 | none=>grind
 | some r=>
   simp[b] at h;subst h;refine .does λM a g _ i j=>?_;obtain⟨v,e,c⟩:=qhy b (j x wx _ f);obtain⟨k,l,m,n,p,q⟩:=qnt g (i nx wb) c t;refine⟨_,k,?_,m,n,p,q⟩;simp_all[execOp,Instr.box,newVar,newRow]
def qi8{t zs}(h:tze P t=V zs): ∃z,z.cells=⟨zs⟩/\ ∀w,(zeroValue t).run P w= .ok z w:=by
 unfold tze at h;cases a:P.info? t with
 | none=>grind
 | some i=>
   cases b:i.zero with
   | none=>grind
   | some z=>
     exact⟨z,wg,λw=>by simp[zeroValue,typeInfo,a,b]⟩
def zcs(zs:List Value):List IV:=zs.map λv=> .p (.sc v)
def qcL(M){zs}(h:zs.all (·.oneCell')=Y):qaO M (zcs zs) zs:=
 ⟨by simp[zcs],wg,λi x v a b=>by
  simp[zcs,b] at a;subst a;exact .sc M v⟩
def qeN(P:Program)(nx:Nat)(t:TypeId):Option FR:=
 match tze P t with
 | some z=>if z.all (·.oneCell') then V {x:= .ptr nx 0 0 0,F:= [nx],W:= [(nx, .arr z.length 0 [zcs z])]} else U
 | none=>U
def qrQ{t nx fr}(c:o.op= .alloc t)(h:qeN P nx t=V fr):fr.ok P o ρ:=by
 unfold qeN at h;split at h
 .rename_i q d;split at h
  .rename_i f;cases h;obtain⟨z,e,b⟩:=qi8 d;refine .does λM a g _ i r=>?_;obtain⟨j,k,l,m,n,p⟩:=qnt g (i nx wb) (qcL M f) t;refine⟨_,j,?_,l,m,by rw[qcK];simpa[zcs] using n,p⟩;simp_all[execOp,Instr.alloc,newVar,newRow]
  grind
 grind
def qgR(P:Program)(nx:Nat)(t:TypeId)(l c:IV):Option FR:=
 match l,c with
 | .p (.sc (.int _ l)), .p (.sc (.int _ c))=>match tel P t with
   | some e=>match tze P e,tsz P e,tby P e with
     | some z,V s,V b=>
       if 0<=l/\l<=c/\c<=9223372036854775807/\b * c<=281474976710656/\z.length=s/\z.all (·.oneCell') then
        V {x:= .ref nx 0 0 l.toNat,F:= [nx],W:= [(nx, .arr s 0 (KQ l.toNat (zcs z)))]}
       else U
     | _,_,_=>U
   | none=>U
 | _,_=>U
def f_make{t:TypeId}{l c:Operand}{Q R:IV}{nx:Nat}{fr:FR}(E:o.op= .makeSlice t l c)(hl:ρ l=V Q)(hc:ρ c=V R)
  (h:qgR P nx t Q R=V fr):fr.ok P o ρ:=by
 unfold qgR at h;split at h
 .rename_i kl l' kc S;split at h
  .rename_i e he;split at h
   .rename_i b sz a0 C D T;split at h
    .rename_i F;obtain⟨W,c2,c3,c4,c5,X⟩:=F;simp only[Option.some.injEq] at h;subst h;subst c5;cases H:P.info? e with
     | none=>simp[tsz,H] at D
     | some i=>
       simp only[tsz,tby,tze,H,Jp,Option.some.injEq,Js] at D T C;cases p:i.zero with
       | none=>simp[p] at C
       | some z=>
         simp only[p,Jp,Option.some.injEq] at C;refine .does λM a hM _ hF hr=>?_;have e1:=(hr l (by simp[E,Ka]) _ hl).sc_inv;have e2:=(hr c (by simp[E,Ka]) _ hc).sc_inv;have w:=run_make (P:=P) M.w t e i z (und_tel he) H p kl kc l' S W c2 (by rw[T];exact c4) c3;obtain⟨n,rfl⟩:=JU W;obtain⟨m,rfl⟩:=JU (show 0<=S by omega);simp only[JT] at *;have y:z.cells.toList=b:=C;have q:z.cells.size=b.length:=by rw[<-y];simp
         have f: ∀k,k < m * b.length->(madeCells z.cells (m * i.size))[k]? =b[k % b.length]? :=by
          intro k hk;rw[D];have hp:=(qil (KK (Kv k) hk)).2;have I:k % b.length < b.length:=Kx _ hp;simp only[madeCells,Array.getElem?_map,Array.getElem?_range,hk,if_true,Jp,q];rw[KS I,getElem!_pos z.cells (k % b.length) (by rw[q];exact I)];congr 1;have:z.cells.toList[k % b.length]'(by simp[q];exact I)=b[k % b.length]:=by simp[y]
          rw[<-this];simp
         have J:=qcL M X;obtain⟨s,r⟩:=qdt hM nx (hF nx wb) b.length 0 m (KQ n (zcs b)) (madeCells z.cells (m * i.size)) e
          (by intro K A;rw[Je A];simp[zcs]) wm wt ⟨by rw[size_madeCells,D];omega,λj v L hv=>by
           rw[Kw,f j L] at hv;exact List.all_eq_true.1 X v (KX hv)⟩ (by
           intro a' K j x d L;have N:a' < n:=by
            rcases Kz a' n with u | u
            .exact u
            .rw[K1 (by simpa using u)] at d;cases d
           rw[Jf,if_pos N] at d;cases d;obtain⟨v,O,v2,v3⟩:=J.get L;have B:j < b.length:=by
            rcases Kz j b.length with u | u
            .exact u
            .rw[K1 u] at O;cases O
           refine⟨v,?_,v2,v3⟩;rw[f _ (qcd wa B),Ku,KA,KB B];exact O)
         refine⟨.slice (V ⟨M.w.heap.size,0,U⟩) n m,_,?_,s,r,rfl,?_⟩
         .simp only[execOp,E,e1,e2];rw[Km,w];rfl
         .refine .ref nx 0 0 n _ (.inr rfl) ⟨_,_,rfl⟩ λa1 g=>?_;simp only[AH.put,if_true,Option.some.injEq] at g;subst g;refine⟨Kq _,λ_=>⟨_,_,rfl,wa,wQ,wL, .inr ⟨M.w.heap.size,0,m,wr,wb,wa⟩⟩⟩
    .cases h
   .cases h
  .cases h
 .cases h
def fstore(P:Program)(G:Nat->Option IBlk)(t:TypeId)(p x:IV):Option FR:=
 match p with
 | .ptr b g r j=>match qbx x,G b,tsz P t with
   | some e,V (.arr s d a),V n=>if g=d/\e.length=n then match a[r]? with
     | some c=>if j+n<=c.length then
       V {x:= .dead,R:= [(b, .arr s d a)],W:= [(b, .arr s d (a.set r (c.take j++e++c.drop (j+n))))]}
       else U
     | none=>U
     else U
   | _,_,_=>U
 | _=>U
def qr1{t:TypeId}{p x:Operand}{zp zx:IV}{fr:FR}(X:o.op= .store t p x)(hp:ρ p=V zp)(hx:ρ x=V zx)
  (h:fstore P G t zp zx=V fr):fr.ok P o ρ:=by
 unfold fstore at h;split at h
 .rename_i b g r j;split at h
  .rename_i O d g' w n a0 hG hn;split at h
   .rename_i hg;obtain⟨rfl,rfl⟩:=hg;split at h
    .rename_i q f;split at h
     .rename_i a3;simp only[Option.some.injEq] at h;subst h;refine .skips λM a hM hR _ hr=>?_;have hb:M.H.G b=V (.arr d g w):=hR (b,_) wb;obtain⟨c,E,W,Q,ep⟩:=(hr p (by simp[X,Ka]) _ hp).ptr_inv hb rfl;obtain⟨R,e,F⟩:=qhy a0 (hr x (by simp[X,Ka]) _ hx);have C:=hM.blk b _ hb;obtain⟨l,ty,q1,q2,q3,q4,q5⟩:=C.2.2 c E W Q;have a4:q.length=d:=C.1 q (KX f);have S:r < w.length:=by
       rcases Kz r w.length with u | u
       .exact u
       .rw[K1 u] at f;cases f
      have z:E+(r * d+j)+R.length<=l.size:=by
       have H:r * d+d<=W * d:=by
        have:(r+1) * d<=W * d:=Ks _ wa;rwa[Kr,KF] at this
       have:=q4.1;rw[F.len];omega
      simp only[IBlk.sz] at ep;have I:=run_storeCells_at P c (E+(r * d+j)) ty R 0 l M.w q1 (by simpa using z) F.one;simp only[Ky] at I;obtain⟨s,rr⟩:=mem_chg hM hb Q q1 g E W (w.set r (q.take j++O++q.drop (j+O.length)))
       (l.toList.take (E+(r * d+j))++R++l.toList.drop (E+(r * d+j)+R.length)).toArray
       (Kq _) (λ_=>⟨rfl,rfl,wb⟩) (by
        intro m a1;rcases Jl a1 with u | u
        .exact C.1 m u
        .subst u;simp only[KO,KM,KU];omega)
       (by simpa using q2) q3 (qbn.put q4 rfl z F.one) (by
        intro i m k y K A;rw[K8] at K;have a5:l.toList.length=l.size:=JF;split at K
        .rename_i T;subst T;first | (rw[if_pos S] at K;cases K) | cases K
         rw[KN,KO,KM] at A;have J:min j q.length=j:=wa
         rw[J] at A;split at A
         .rw[KN,KM,J] at A;split at A
          .rename_i H h2;rw[KR,if_pos h2] at A;obtain⟨v,B,L,N⟩:=q5 r q k y f A;refine⟨v,?_,L,N⟩;rw[KP,K4,KN,KM,if_pos wa,KR,if_pos wa,JE];exact B
          .rename_i H h2;obtain⟨v,B,L,N⟩:=F.get A;refine⟨v,?_,L,N⟩;have D:=F.len;rw[KP,KN,KO,KM,if_pos wa,KN,KM,if_neg wa];rw[<-B];congr 1;omega
         .rename_i H;rw[KT] at A;have a6:k - (j+O.length)+(j+O.length)=k:=wa
          rw[show j+O.length+(k - (j+O.length))=k by omega] at A;obtain⟨v,B,L,N⟩:=q5 r q k y f A;refine⟨v,?_,L,N⟩;have D:=F.len;rw[KP,KN,KO,KM,if_neg wa,KT,JE];rw[<-B];congr 1;omega
        .rename_i T;obtain⟨v,B,L,N⟩:=q5 i m k y K A;refine⟨v,?_,L,N⟩;have a7:k < d:=by
          rw[<-C.1 m (KX K)];rcases Kz k m.length with u | u
          .exact u
          .rw[K1 u] at A;cases A
         have D:=F.len;have a2:i * d+k < r * d+j\/r * d+j+R.length<=i * d+k:=by
          rcases Kz i r with H | H
          .have:(i+1) * d<=r * d:=Ks _ H;rw[Kr,KF] at this;left;omega
          .have:(r+1) * d<=i * d:=Ks _ wa;rw[Kr,KF] at this;right;omega
         rcases a2 with H | H
         .rw[KP,K4,KN,KM,if_pos (by
           have:E+(i * d+k) < l.size:=by
            rcases Kz (E+(i * d+k)) l.size with u | u
            .exact u
            .rw[Array.getElem?_eq_none u] at B;cases B
           omega),KR,if_pos wa,JE]
          exact B
         .rw[KP,KN,KO,KM,if_neg wa,KT,JE];rw[<-B];congr 1;omega)
      refine⟨_,?_,s,rr,?_⟩
      .have D:=F.len;simp only[execOp,X,Instr.storeAt,ep,Instr.sureAddr,storeVar,Km,Kn,Kp,qaD hn,e,KV,D,ne_eq,not_true_eq_false,if_false,I]
      .rfl
     .cases h
    .cases h
   .cases h
  .cases h
 .cases h
end Go.Idl
namespace Go.Idl
variable{P:Program}{o:Oper}{ρ:Operand->Option IV}{G:Nat->Option IBlk}
def qqY{M}(h:MRel M){b sz g rows}(l:M.H.G b=V (.arr sz g rows))(g')(m:g < g'):
  qaf M ⟨M.w,M.H.put b (.arr sz g' []),putβ M.β b U⟩/\MRel ⟨M.w,M.H.put b (.arr sz g' []),putβ M.β b U⟩:=by
 have s:qaf M ⟨M.w,M.H.put b (.arr sz g' []),putβ M.β b U⟩:=by
  refine⟨rfl,rfl,rfl,Kq _,λc _ k=>⟨rfl,?_⟩,λ_ h=> .inl h,λi f p a=>?_,rfl,λ_ _=>rfl⟩
  .rintro(q | ⟨i,j,o,n,a,d⟩)
   .exact k (.inl q)
   by_cases e:i=b
   .simp[putβ,e] at d
   .simp[AH.put,putβ,e] at a d;exact k (.inr ⟨i,j,o,n,a,d⟩)
  .by_cases e:i=b
   .subst e;simp[AH.put,if_true,Option.some.injEq] at a;subst a;refine⟨_,l,rfl,rfl,KI m,λe=>?_⟩;simp[IBlk.gen] at e;omega
   simp_all[AH.put,putβ]
 refine⟨s,h.change s b (.inr rfl) ?_ ?_ ?_ ?_ ?_ ?_⟩
 .intro i e;simp[AH.put,e]
 .intro i e;simp[putβ,e]
 .simp
 .intro f a;simp[AH.put,if_true,Option.some.injEq] at a;subst a;exact⟨wb,wb,λc o n d=>by simp[putβ] at d⟩
 .intro f c o n a d;simp[putβ] at d
 .intro f c o n a d;simp[putβ] at d
def iapp(G:Nat->Option IBlk)(sz:Nat):IV->Option (List (List IV) × List (Nat × IBlk))
 | .p (.sc (.string s))=>if sz=1 then V (s.data.toList.map λb=> [sci .u8 b.toNat], []) else U
 | z=>qcF G sz z
structure qoY(P:Program)(M:Mem)(sz:Nat)(rs:List (List IV))(v:Value)(news:List Value):Prop where
 len: ∀w,(Jy v).run P w= .ok rs.length w
 wid: ∀row∈rs,row.length=sz
 nl:news.length=rs.length * sz
 get:(Ju sz rs.length v).run P M.w= .ok ⟨news⟩ M.w
 pre: ∀n,n<=rs.length->(Ju sz n v).run P M.w= .ok ⟨news.take (n * sz)⟩ M.w
 one: ∀u∈news,u.oneCell'=Y
 rel: ∀(i:Nat) (row:List IV) (j:Nat) (x:IV),rs[i]? =V row->row[j]? =V x-> ∃u,news[i * sz+j]? =V u/\u.oneCell'=Y/\VRel M x u
def qad{b:Type}{l:List b}{i x}(h:l[i]? =V x):i < l.length:=wg
def qiQ.arg{M sz rs v a cap f}(h:qiQ P M sz rs v a cap f):
  qoY P M sz rs v ((KZ (rs.length * sz)).map f):=by
 have p: ∀(i) (r) (j) (x),rs[i]? =V r->r[j]? =V x->i * sz+j < rs.length * sz:=by
  intro i r j x b c;have d:=qad c;rw[h.wid r (KX b)] at d;exact qcd (qad b) d
 refine⟨λw=>by rw[h.val];rfl,h.wid,wb,h.pre _ (Kq _),λn l=>?_,?_,?_⟩
 .rw[h.pre n l];have e:n * sz<=rs.length * sz:=Ks _ l;congr 1
  grind
 .intro u m;simp[List.mem_map] at m;obtain⟨k,q,rfl⟩:=m;obtain⟨i,j,b,c,rfl⟩:=qfo q;have g:=KS b;have s:=h.wid _ (Jd b);exact(h.rel i _ j _ g (KS (show j < (rs[i]).length by omega))).1
 .intro i r j x b c;refine⟨f (i * sz+j),?_,h.rel i r j x b c⟩
  grind
def qbF{sz z rs R}(h:iapp G sz z=V (rs,R)){M}(q:MRel M)
  (t: ∀p∈R,M.H.G p.1=V p.2) {v} (m:VRel M z v): ∃news,qoY P M sz rs v news:=by
 unfold iapp at h;split at h
 .rename_i s;split at h
  .rename_i y;subst y;obtain⟨rfl,rfl⟩:=h;have e:=m.sc_inv;subst e;have c:s.data.toList.length=s.size:=wv
   refine⟨s.data.toList.map λb=> .int .u8 b.toNat,?_,?_,?_,?_,?_,?_,?_⟩
   .simp_all[Jy,Kn]
   .simp
   .simp
   .simp only[Ju,Kn,Jk,c];congr 1;have:s.extract 0 s.size=s:=wb
    rw[this]
    grind
   .intro n D;simp[Ju,Kn];congr 1;apply JJ;simp
   .intro u A;obtain⟨b,_,rfl⟩:=List.mem_map.1 A;rfl
   .intro i r j x g k;rw[K6] at g;cases l:s.data.toList[i]? with
    | none=>simp_all
    | some b=>
      rw[l] at g;cases g;cases j with
      | zero=>
        cases k;exact⟨.int .u8 b.toNat,wn,rfl, .sc M _⟩
      | succ j=>simp_all
  simp_all
 .obtain⟨a,B,f,C⟩:=qeE (P:=P) h q t m;exact⟨_,C.arg⟩
def qhV(P:Program)(t a:TypeId):Option (TypeId × Nat × Nat × List Value):=
 match tel P t,tkd P a with
 | some e,V (.slice _) | some e,V .string=>match tsz P e,tby P e,tze P e with
   | some s,V b,V z=>if z.length=s/\z.all (·.oneCell')=Y then V (e,s,b,z) else U
   | _,_,_=>U
 | _,_=>U
structure qe6(P:Program)(t1 t2 e:TypeId)(sz by_:Nat)(zs:List Value)(i:TypeInfo)(z:Value):Prop where
 u1:P.underlying t1=V (.slice e)
 u2:(∃e2,P.underlying t2=V (.slice e2))\/P.underlying t2=V .string
 inf:P.info? e=V i
 size:i.size=sz
 bytes:i.bytes=by_
 zero:i.zero=V z
 zcl:z.cells=⟨zs⟩
 zl:zs.length=sz
 zone:zs.all (·.oneCell')=Y
def qjb{n t e sz by_ zs}(h:qhV P n t=V (e,sz,by_,zs)): ∃i z,qe6 P n t e sz by_ zs i z:=by
 have k:tel P n=V e->((∃u,P.underlying t=V (.slice u))\/P.underlying t=V .string)->tsz P e=V sz->tby P e=V by_->tze P e=V zs->zs.length=sz/\zs.all (·.oneCell')=Y-> ∃i z,qe6 P n t e sz by_ zs i z:=by
  intro l v f j c a;cases p:P.info? e with
  | none=>simp[tsz,p] at f
  | some i=>
    simp only[tsz,tby,tze,p,Jp,Option.some.injEq,Js] at f j c;cases g:i.zero with
    | none=>simp_all
    | some z=>
      simp[g,Jp,Option.some.injEq] at c;exact⟨i,z,und_tel l,v,p,f,j,g,by rw[<-c],a.1,a.2⟩
 unfold qhV at h;split at h
 .rename_i w u l q;obtain⟨d,r,m⟩:=qaT q;cases m;split at h
  .split at h<;>simp_all
  .cases h
 .rename_i w l q;obtain⟨d,r,m⟩:=qaT q
  grind
 simp_all
def qb8{t f ty e:TypeId}{sz by_:Nat}{zs:List Value}{i:TypeInfo}{z:Value}(d:qe6 P t f e sz by_ zs i z)
  {base:Option Addr} {sLen sCap n:Nat} {x:Value} {news:List Value} {w w':World} (g:(Jy x).run P w= .ok n w)
  (j:(Ju sz n x).run P w= .ok ⟨news⟩ w) (b:sLen+n<=sCap)
  (h:match base with | some a=>(storeCells (a.add (sLen * sz)) news).run P w= .ok () w' | none=>w'=w):
  (Jw #[t,f] ty #[.slice base sLen sCap,x]).run P w= .ok (.slice base (sLen+n) sCap) w':=by
 have k:=qaD (show tsz P e=V sz by simp[tsz,d.inf,d.size]);rcases d.u2 with ⟨l,c⟩ | c;all_goals
  unfold Jw;simp only[KP,K5,K9,Km,run_underlying d.u1,Kp,run_underlying c,Kn,k,
   JQ,if_false,g,b,if_true,JR,j]
  grind[Km,Kp,Kn]
def qdQ{t m ty e:TypeId}{sz by_:Nat}{zs:List Value}{i:TypeInfo}{z:Value}(h:qe6 P t m e sz by_ zs i z)
  {base:Option Addr} {sLen sCap n:Nat} {x:Value} {olds news:List Value} {w:World} (q:(Jy x).run P w= .ok n w)
  (r:(Ju sz sLen (.slice base sLen sCap)).run P w.drew= .ok ⟨olds⟩ w.drew)
  (s:(Ju sz n x).run P w.drew= .ok ⟨news⟩ w.drew) (c:sCap < sLen+n) (d:sLen+n<=maxLen) (f:(sLen+n) * by_<=140737488355328):
  (Jw #[t,m] ty #[.slice base sLen sCap,x]).run P w=
   .ok (.slice (V ⟨w.heap.size,0,U⟩) (sLen+n) (grownCap w (sLen+n) sCap e))
    (w.drew.alloc (.cells (⟨olds⟩++⟨news⟩++Jv z.cells (grownCap w (sLen+n) sCap e - (sLen+n))) e)):=by
 have u: ∀w,(sizeOf e).run P w= .ok sz w:=qaD (show tsz P e=V sz by simp[tsz,h.inf,h.size]);have v: ¬(sLen+n<=sCap):=wa
 have p:=growslice_fits c f;have g: ¬(JD (sLen+n) sCap * by_ > 2 ^ 48):=wa
 have a: ¬(((sLen+n:Nat):Int) > IntKind.i64.max/\(False\/by_=0)):=by
  have:IntKind.i64.max=9223372036854775807:=wh
  rw[this];unfold maxLen at d;omega
 have j: ∀w,(typeInfo e).run P w= .ok i w:=λw=>by simp[typeInfo,h.inf]
 have k: ∀w,(zeroValue e).run P w= .ok z w:=λw=>by simp[zeroValue,typeInfo,h.inf,h.zero]
 have l: ∀w,(choose (.appendCap (sLen+n) sCap e)).run P w= .ok (grownCap w (sLen+n) sCap e) w.drew:=λw=>by rfl
 rcases h.u2 with ⟨y,b⟩ | b;all_goals
  unfold Jw;simp only[KP,K5,K9,Km,run_underlying h.u1,Kp,run_underlying b,Kn,u,
   JQ,if_false,q,v,JR,if_true,j,h.bytes,a,g,l,run_askRoom,r,s,k,newRow,run_newObj,JV,JW]
end Go.Idl
namespace Go.Idl
variable{P:Program}{o:Oper}{ρ:Operand->Option IV}{G:Nat->Option IBlk}
def zeroCells_one{z n}(h: ∀v∈z.toList,v.oneCell'=Y): ∀v∈(Jv z n).toList,v.oneCell'=Y:=by
 intro v b;simp[Jv] at b;obtain⟨k,a,rfl⟩:=b;have d:0 < z.size:=by
  grind
 have c:k % z.size < z.size:=Kx _ d
 grind
def qjl{t d e sz by_ n zs olds news i z}(f: ∀v∈olds,v.oneCell'=Y)(g: ∀v∈news,v.oneCell'=Y)(a:qe6 P t d e sz by_ zs i z):
  ∀v∈((⟨olds⟩)++⟨news⟩++Jv z.cells n).toList,v.oneCell'=Y:=by
 intro v b;simp only[JK,Ja] at b;rcases b with (h | h) | h
 .grind
 .grind
 .refine zeroCells_one (λu c=>?_) v h;rw[a.zcl] at c;exact List.all_eq_true.1 a.zone u c
def fapp(P:Program)(G:Nat->Option IBlk)(nx:Nat)(t h:TypeId)(s x:IV):Option FR:=
 match qhV P t h with
 | some (_,c,a,_)=>match iapp G c x with
   | some (r,f)=>match s with
     | .p (.sc (.slice U 0 0)) | .p .emp=>
       if r.length * a<=140737488355328/\r.length<=9223372036854775807 then V {x:= .ref nx 0 0 r.length,R:=f,F:= [nx],W:= [(nx, .arr c 0 r)]} else U
     | .ref b g e l=>match qcF G c (.ref b g e l) with
       | some (d,i)=>
         if(d.length+r.length) * a<=140737488355328/\d.length+r.length<=9223372036854775807 then
          V {x:= .ref b (g+1) 0 (d.length+r.length),R:=i++f,W:= [(b, .arr c (g+1) (d++r))]}
         else U
       | none=>U
     | _=>U
   | none=>U
 | none=>U
def qfZ{M sz}{rs rx:List (List IV)}{a:Array Value}{o'}
  (c: ∀(i r j x),rs[i]? =V r->r[j]? =V x-> ∃v,a[o'+(i * sz+j)]? =V v/\v.oneCell'=Y/\VRel M x v)
  (d: ∀(i r j x),rx[i]? =V r->r[j]? =V x-> ∃v,a[o'+(rs.length * sz+(i * sz+j))]? =V v/\v.oneCell'=Y/\VRel M x v):
  ∀(i r j x),(rs++rx)[i]? =V r->r[j]? =V x-> ∃v,a[o'+(i * sz+j)]? =V v/\v.oneCell'=Y/\VRel M x v:=by
 intro i r j x h b;rw[KN] at h;split at h
 .grind
 .obtain⟨v,f,g,k⟩:=d _ r j x h b;refine⟨v,?_,g,k⟩;rw[<-f];congr 2;have:i * sz=rs.length * sz+(i - rs.length) * sz:=by rw[<-Kr];grind
  omega
def qnf{K L ty e:TypeId}{sz by_:Nat}{zs:List Value}{i:TypeInfo}{z:Value}(k:qe6 P K L e sz by_ zs i z)
  {M:Mem} (q:MRel M) {nx:Nat} (l: ¬M.H.A nx) {a:Option Addr} {x:Value} {rx:List (List IV)} {zx:IV} {Rx:List (Nat × IBlk)} (t:iapp G sz zx=V (rx,Rx))
  (A: ∀p∈Rx,M.H.G p.1=V p.2) (f:VRel M zx x) (B:rx.length * by_<=140737488355328) (R:rx.length<=9223372036854775807):
  ∃v M',(Jw #[K,L] ty #[.slice a 0 0,x]).run P M.w= .ok v M'.w/\qaf M M'/\MRel M'/\M'.H=M.H.put nx (.arr sz 0 rx)/\VRel M' (.ref nx 0 0 rx.length) v:=by
 rcases KE rx.length with N | N
 .have S:rx= []:=KY N;subst S;obtain⟨c,d⟩:=qbF (P:=P) t q A f;have T:c= []:=KY (by simpa using d.nl);subst T;have b:=qb8 (P:=P) (ty:=ty) k (base:=a) (sLen:=0) (sCap:=0) (n:=0) (d.len M.w) (by simpa using d.get) (Kq _) (w':=M.w) (by cases a<;>rfl);obtain⟨s,r⟩:=qeG q nx l sz 0;refine⟨_,⟨M.w,M.H.put nx (.arr sz 0 []),putβ M.β nx U⟩,b,s,r,rfl, .ref nx 0 0 0 _ (.inr rfl) ⟨_,_,rfl⟩ λD h=>?_⟩;simp only[AH.put,if_true,Option.some.injEq] at h;subst h;exact⟨Kq _,λ_=>⟨a,0,rfl,wb,wb,wQ, .inl rfl⟩⟩
 .have O:=qaf.drew M;have m:=q.drew;obtain⟨c,d⟩:=qbF (P:=P) t m A (f.step O);obtain⟨_,E⟩:=qbF (P:=P) t q A f;have b:=qdQ (P:=P) (ty:=ty) k (base:=a) (sLen:=0) (sCap:=0) (n:=rx.length) (w:=M.w) (olds:= []) (E.len M.w)
   (by cases a<;>simp[Ju,loadCells,loadCellsFrom]) d.get wa wt vg
  simp only[Kw] at b;have g:=grownCap_ge M.w rx.length 0 e;have F:=grownCap_le_maxLen M.w rx.length 0 e wt;have H:z.cells.size=sz:=by rw[k.zcl];exact k.zl
  generalize grownCap M.w rx.length 0 e=C at *;obtain⟨W,X⟩:=qdt m nx l sz 0 C rx (⟨[]⟩++⟨c⟩++Jv z.cells (C - rx.length)) e
   d.wid g F (qbn.all (by
    simp only[JH,KV,Jm,Kw,d.nl,size_zeroCells,H,<-Kr];exact Ks _ wa) (qjl wb d.one k)) (by
    intro i' I j y hi hj;obtain⟨u,Q,u2,u3⟩:=d.rel i' I j y hi hj;refine⟨u,?_,u2,u3⟩;have J:=qad Q;rw[JG];simp only[JH,KV,Jm,Kw,J,if_true];rw[JG];simpa using Q)
  refine⟨_,⟨_,_,_⟩,b,O.trans W,X,rfl, .ref nx 0 0 rx.length _ (.inr rfl) ⟨_,_,rfl⟩ λD h=>?_⟩;simp only[AH.put,if_true,Option.some.injEq] at h;subst h;exact⟨Kq _,λ_=>⟨_,_,rfl,g,wQ,by simp[IBlk.len];exact g, .inr ⟨M.w.heap.size,0,C,wr,wb,wa⟩⟩⟩
def qrI{t1 t2 ty e:TypeId}{sz by_:Nat}{zs:List Value}{i:TypeInfo}{z:Value}(hT:qe6 P t1 t2 e sz by_ zs i z)
  {M:Mem} (hM:MRel M) {b g off len:Nat} {v x:Value} {rs rx:List (List IV)} {zx:IV} {Rs Rx:List (Nat × IBlk)}
  (I:qcF G sz (.ref b g off len)=V (rs,Rs)) (a1: ∀p∈Rs,M.H.G p.1=V p.2) (hv:VRel M (.ref b g off len) v)
  (hx:iapp G sz zx=V (rx,Rx)) (hR: ∀p∈Rx,M.H.G p.1=V p.2) (R:VRel M zx x)
  (a2:(rs.length+rx.length) * by_<=140737488355328) (b0:rs.length+rx.length<=9223372036854775807):
  ∃v' M',(Jw #[t1,t2] ty #[v,x]).run P M.w= .ok v' M'.w/\qaf M M'/\MRel M'/\M'.H=M.H.put b (.arr sz (g+1) (rs++rx))/\
   VRel M' (.ref b (g+1) 0 (rs.length+rx.length)) v':=by
 obtain⟨m,hG,S,a3⟩: ∃m,G b=V (.arr sz g m)/\rs=(m.drop off).take len/\Rs= [(b, .arr sz g m)]:=by
  unfold qcF at I;simp only at I;split at I
  .rename_i s g' m T;split at I
   .rename_i hg;obtain⟨rfl,rfl⟩:=hg;simp only[Option.some.injEq,Prod.mk.injEq] at I;exact⟨m,T,I.1.symm,I.2.symm⟩
   .cases I
  .cases I
 have T:M.H.G b=V (.arr sz g m):=a1 (b,_) (by simp[a3]);have a4:=hM.blk b _ T;obtain⟨a,E,ev,h1,h2,h3,h4⟩:=hv.ref_inv T rfl;simp only[IBlk.len,IBlk.sz] at h2 h3 h4;have q:rs.length=len:=by rw[S,KM,KU];omega
 have b1:z.cells.size=sz:=by rw[hT.zcl];exact hT.zl
 have H: ∀d∈rs,d.length=sz:=λd t=>a4.1 d (by rw[S] at t;exact K3 (KW t))
 subst ev;by_cases O:len+rx.length<=E
 ·
  obtain⟨k,D⟩:=qbF (P:=P) hx hM hR R;have W: ∀d∈rs++rx,d.length=sz:=by
   intro d t;rcases List.mem_append.1 t with h | h
   .exact H d h
   .exact D.wid d h
  rcases h4 with h4 | ⟨c,o',n,a5,ea,h5⟩
  ·
   subst h4;have e1:len=0:=wa
   have e2:rx= []:=KY wa;have e3:rs= []:=KY wa;subst e2;have hn:k= []:=KY (by simpa using D.nl);subst hn;have A:=qb8 (P:=P) (ty:=ty) hT (base:=a) (sLen:=len) (sCap:=0) (n:=0) (D.len M.w) (by simpa using D.get) wa (w':=M.w) (by cases a<;>rfl);obtain⟨s,r⟩:=qqY hM T (g+1) wa;refine⟨_,⟨M.w,M.H.put b (.arr sz (g+1) []),putβ M.β b U⟩,A,s,r,by rw[e3];rfl,?_⟩;rw[e3];refine .ref b (g+1) 0 0 _ (.inr rfl) ⟨_,_,by rw[e1]⟩ λa6 l=>?_;simp only[AH.put,if_true,Option.some.injEq] at l;subst l;exact⟨Kq _,λ_=>⟨a,0,by rw[e1],wb,wb,wQ, .inl rfl⟩⟩
  .subst ea;obtain⟨B,b2,q1,q2,q3,q4,q5⟩:=a4.2.2 c o' n a5;have X:=D.nl;have b3:off * sz+(n - off) * sz=n * sz:=by rw[<-Kr];congr 1;omega
   have b8:o'+off * sz+(n - off) * sz<=B.size:=by
    have:=q4.1;omega
   have hk:(off * sz+len * sz)+k.length<=n * sz:=by
    rw[X,<-Kr,<-Kr];exact Ks _ wa
   have a7:=run_storeCells_at P c (o'+off * sz+len * sz) b2 k 0 B M.w q1 wa D.one;simp only[Ky] at a7;have A:=qb8 (P:=P) (ty:=ty) hT (base:=V ⟨c,o'+off * sz,U⟩) (sLen:=len) (sCap:=E) (n:=rx.length) (D.len M.w) D.get O
    (w':=M.w.setRow c (B.toList.take (o'+off * sz+len * sz)++k++B.toList.drop (o'+off * sz+len * sz+k.length)).toArray) (by simp only[qbo];exact a7)
   have c0:B.toList.length=B.size:=JF;obtain⟨s,r⟩:=mem_chg hM T a5 q1 (g+1) (o'+off * sz) (n - off) (rs++rx)
    (B.toList.take (o'+off * sz+len * sz)++k++B.toList.drop (o'+off * sz+len * sz+k.length)).toArray
    wa (λe=>absurd e wa) W (by rw[KO];omega) wa (qbn.put (q4.sub wa wa) rfl wa D.one) (by
     refine qfZ ?_ ?_
     .intro L d j y F J;have c1:=qad F;have a8:=qad J;rw[H d (KX F)] at a8;rw[S,KR,if_pos wa,KT] at F;obtain⟨u,K,u2,u3⟩:=q5 _ d j y F J;refine⟨u,?_,u2,u3⟩;have N:L * sz+j < len * sz:=qcd wa a8;rw[KP,K4,KN,KM,if_pos wa,KR,if_pos wa,JE,<-K];congr 1;rw[Kr];omega
     .intro L d j y F J;obtain⟨u,K,u2,u3⟩:=D.rel L d j y F J;refine⟨u,?_,u2,u3⟩;have N:=qad K;rw[q,KP,KN,KO,KM,if_pos wa,KN,KM,if_neg wa,<-K];congr 1;omega)
   refine⟨_,⟨_,_,_⟩,A,s,r,rfl,?_⟩;rw[q];refine .ref b (g+1) 0 (len+rx.length) _ (.inr rfl) ⟨_,_,rfl⟩ λa6 l=>?_;simp only[AH.put,if_true,Option.some.injEq] at l;subst l;exact⟨Kq _,λ_=>⟨_,E,rfl,O,wL,wL, .inr ⟨c,o'+off * sz,n - off,wr,wb,wa⟩⟩⟩
 ·
  have s1:=qaf.drew M;have a0:=hM.drew;obtain⟨k,D⟩:=qbF (P:=P) hx a0 hR (R.step s1);obtain⟨_,b4⟩:=qbF (P:=P) hx hM hR R;obtain⟨a',b9,f,hB⟩:=qeE (P:=P) I a0 a1 (hv.step s1);have hB:=hB.arg;generalize (KZ (rs.length * sz)).map f=olds at hB;have W: ∀d∈rs++rx,d.length=sz:=by
   intro d t;rcases List.mem_append.1 t with h | h
   .exact H d h
   .exact D.wid d h
  have Q:=hB.get;rw[q] at Q a2 b0;have A:=qdQ (P:=P) (ty:=ty) hT (base:=a) (sLen:=len) (sCap:=E) (n:=rx.length) (w:=M.w) (olds:=olds) (b4.len M.w)
   Q D.get wa wt a2
  have b5:=grownCap_ge M.w (len+rx.length) E e;have b6:=grownCap_le_maxLen M.w (len+rx.length) E e wt;generalize grownCap M.w (len+rx.length) E e=C at *;have a9:=hB.nl;have X:=D.nl;rw[q] at a9;obtain⟨s2,r2⟩:=qpP a0 T (g+1) C (rs++rx) (⟨olds⟩++⟨k⟩++Jv z.cells (C - (len+rx.length))) e
   wa W (by rw[KO];omega) b6 (qbn.all (by
    simp only[JH,KV,a9,X,size_zeroCells,b1,<-Kr];exact Ks _ wa) (qjl hB.one D.one hT)) (by
    have b7:=qfZ (M:= {M with w:=M.w.drew}) (rs:=rs) (rx:=rx) (sz:=sz) (o':=0) (a:=⟨olds⟩++⟨k⟩++Jv z.cells (C - (len+rx.length)))
     (by
      intro L d j y F J;obtain⟨u,K,u2,u3⟩:=hB.rel L d j y F J;refine⟨u,?_,u2,u3⟩;have N:=qad K;rw[Kw,JG,if_pos (by simp only[JH,KV];omega),JG,if_pos (by simpa using N)];simpa using K)
     (by
      intro L d j y F J;obtain⟨u,K,u2,u3⟩:=D.rel L d j y F J;refine⟨u,?_,u2,u3⟩;have N:=qad K;rw[Kw,q,JG,if_pos (by simp only[JH,KV];omega),JG,if_neg (by simp only[KV];omega)];simp only[KV,KP];rw[<-K];congr 1;omega)
    intro L d j y F J;have:=b7 L d j y F J;simpa using this)
  refine⟨_,⟨_,_,_⟩,A,s1.trans s2,r2,rfl,?_⟩;rw[q];refine .ref b (g+1) 0 (len+rx.length) _ (.inr rfl) ⟨_,_,rfl⟩ λa6 l=>?_;simp only[AH.put,if_true,Option.some.injEq] at l;subst l;exact⟨Kq _,λ_=>⟨_,_,rfl,b5,wL,wL, .inr ⟨M.w.heap.size,0,C,wr,wb,wa⟩⟩⟩
def f_app{F H:TypeId}{s x:Operand}{zs zx:IV}{nx:Nat}{fr:FR}(j:o.op= .call {callee:= .builtin .append,args:=#[s,x],argTypes:=#[F,H]})
  (I:ρ s=V zs) (J:ρ x=V zx) (h:fapp P G nx F H zs zx=V fr):fr.ok P o ρ:=by
 unfold fapp at h;have k: ∀(M:Mem) (a:Act) v c,(Jw #[F,H] o.type #[a.eval s,a.eval x]).run P M.w= .ok v (c:Mem).w->(execOp a.eval o).run P M.w= .ok (.value v) c.w:=by
  intro M a v c n;simp only[execOp,j,resolve,invoke,builtin,Km,Kn,Kp,K0,Jg,Jh,n]
 split at h
 .rename_i e X O zz r;obtain⟨i,z,r⟩:=qjb r;split at h
  .rename_i rx Rx l;split at h
   .split at h
    .rename_i d;simp only[Option.some.injEq] at h;subst h;refine .does λM a t m E f=>?_;have Q:=(f s wl _ I).sc_inv;obtain⟨v,c,u,A,B,C,D⟩:=qnf (P:=P) (ty:=o.type) r t (E nx wb) (a:=U) l m (f x wl _ J) d.1 d.2;exact⟨v,c,k M a v c (by rw[Q];exact u),A,B,C,D⟩
    .cases h
   .split at h
    .rename_i d;simp only[Option.some.injEq] at h;subst h;refine .does λM a t m E f=>?_;have N:=f s wl _ I;generalize R:a.eval s=q at N;cases N with
     | p y v h=>
       cases h with
       | emp S=>
         obtain⟨v,c,u,A,B,C,D⟩:=qnf (P:=P) (ty:=o.type) r t (E nx wb) (a:=S) l m (f x wl _ J) d.1 d.2;exact⟨v,c,k M a v c (by rw[R];exact u),A,B,C,D⟩
    .cases h
   .rename_i b g T W;split at h
    .rename_i rs Rs K;split at h
     .rename_i d;simp only[Option.some.injEq] at h;subst h;refine .does λM a t m E f=>?_;obtain⟨v,c,u,A,B,C,D⟩:=qrI (P:=P) (ty:=o.type) r t K (λp L=>m p (List.mem_append.2 (.inl L))) (f s wl _ I)
       l (λp L=>m p (List.mem_append.2 (.inr L))) (f x wl _ J) d.1 d.2
      exact⟨v,c,k M a v c u,A,B,C,D⟩
     .cases h
    .cases h
   .cases h
  .cases h
 .cases h
end Go.Idl
namespace Go.Idl
variable{P:Program}{o:Oper}{ρ:Operand->Option IV}{G:Nat->Option IBlk}
def qgP(P:Program)(G:Nat->Option IBlk)(t:TypeId)(d x:IV):Option FR:=
 match(tel P t).bind (tsz P ·) with
 | some e=>match d with
   | .ref b g a l=>match G b,iapp G e x with
     | some (.arr s f r),V (c,h)=>
       if g=f/\s=e then
        V {x:=sci .i64 (Kt c.length l),R:=(b, .arr s f r)::h,
           W:= [(b, .arr s g (r.take a++c.take (Kt c.length l)++r.drop (a+Kt c.length l)))]}
       else U
     | _,_=>U
   | _=>U
 | none=>U
def qjJ{t e ty sz}(b:tel P t=V e)(c:tsz P e=V sz){ts}(d:ts[0]? =V t){base dLen dCap n x news w w'}
  (f:(Jy x).run P w= .ok n w) (g:(Ju sz (Kt n dLen) x).run P w= .ok ⟨news⟩ w)
  (h:match base with | some a=>(storeCells a news).run P w= .ok () w' | none=>w'=w):
  (JA ts ty #[.slice base dLen dCap,x]).run P w= .ok (goInt (Kt n dLen)) w':=by
 unfold JA;simp only[d,KP,K5,K9,Km,run_underlying (und_tel b),Kp,qaD c]
 grind[Km,Kp,Kn]
def f_copy{ts:Array TypeId}{t1:TypeId}{d x:Operand}{zd zx:IV}{fr:FR}(ho:o.op= .call {callee:= .builtin .copy,args:=#[d,x],argTypes:=ts})(ht:ts[0]? =V t1)
  (hd:ρ d=V zd) (hx:ρ x=V zx) (h:qgP P G t1 zd zx=V fr):fr.ok P o ρ:=by
 unfold qgP at h;split at h
 .rename_i sz a6;obtain⟨e,he,hs⟩:=qd7 a6;split at h
  .rename_i b g l z;split at h
   .rename_i s g' f D Rx hG a7;split at h
    .rename_i hg;obtain⟨rfl,rfl⟩:=hg;simp only[Option.some.injEq] at h;subst h;refine .does λM a T hR _ hr=>?_;have hb:M.H.G b=V (.arr s g f):=hR (b,_) wb;have N:=T.blk b _ hb;obtain⟨a0,W,ev,h1,h2,h3,h4⟩:=(hr d (by simp[ho,Ka,Call.operands]) _ hd).ref_inv hb rfl;simp only[IBlk.len,IBlk.sz] at h2 h3 h4;obtain⟨w,E⟩:=qbF (P:=P) a7 T (λp hp=>hR p (K7 _ hp)) (hr x (by simp[ho,Ka,Call.operands]) _ hx);have C:Kt D.length z<=D.length:=Nat.min_le_left _ _;have a8:Kt D.length z<=z:=Nat.min_le_right _ _;generalize hm:Kt D.length z=m at *;have b6:=E.nl;have b5:m * s<=D.length * s:=Ks _ C;have X: ∀w',(JA ts o.type #[a.eval d,a.eval x]).run P M.w= .ok (goInt m) w'->(execOp a.eval o).run P M.w= .ok (.value (.int .i64 m)) w':=by
      intro w' q;simp only[execOp,ho,resolve,invoke,builtin,Km,Kn,Kp,K0,Jg,Jh,q,goInt]
     have I: ∀t∈f.take l++D.take m++f.drop (l+m),t.length=s:=by
      intro t J;simp only[Ja] at J;rcases J with (h | h) | h
      .exact N.1 t (KW h)
      .exact E.wid t (KW h)
      .exact N.1 t (K3 h)
     have K:(f.take l++D.take m++f.drop (l+m)).length=f.length:=by
      simp only[KO,KM,KU];omega
     rcases h4 with h4 | ⟨c,F,n,a1,ea,h5⟩
     ·
      have a9:m=0:=wa
      subst a9;have Q:f.take l++D.take 0++f.drop (l+0)=f:=wb
      rw[Q];have L:=E.pre 0 (Kv _);simp only[Nat.zero_mul,List.take_zero] at L;have q:=qjJ (P:=P) (ty:=o.type) he hs ht (base:=a0) (dLen:=z) (dCap:=W) (w':=M.w) (E.len M.w) (by rw[hm];exact L) (by cases a0<;>rfl);rw[hm] at q;refine⟨_,⟨M.w,M.H.put b (.arr s g f),M.β⟩,X M.w (by rw[ev];exact q),?_⟩;have a2:(M.H.put b (.arr s g f)).G=M.H.G:=by funext k;simp only[AH.put];split<;>simp_all
      have a3:(M.H.put b (.arr s g f)).A=M.H.A:=by
       funext k;simp only[AH.put];exact propext ⟨λh=>h.elim id (λe=>e ▸T.dom b _ hb), .inl⟩
      have hH:M.H.put b (.arr s g f)=M.H:=by
       have a4:(M.H.put b (.arr s g f)).O=M.H.O:=rfl;show AH.mk _ _ _=_;cases b0:M.H with
       | mk A G' O'=>
         rw[b0] at a2 a3 a4;exact AH.mk.injEq .. ▸⟨a3,a2,a4⟩
      have b1:(⟨M.w,M.H.put b (.arr s g f),M.β⟩:Mem)=M:=by rw[hH]
      rw[b1];exact⟨.refl M,T,by rw[qcK,hH], .sc M _⟩
     .subst ea;obtain⟨v,b2,q1,q2,q3,q4,q5⟩:=N.2.2 c F n a1;have hk:l * s+m * s<=n * s:=by
       rw[<-Kr];exact Ks _ wa
      have H:(w.take (m * s)).length=m * s:=by rw[KM];omega
      have b7:=q4.1;have a5:=run_storeCells_at P c (F+l * s) b2 (w.take (m * s)) 0 v M.w q1 wa (λu hu=>E.one u (KW hu));simp only[Ky,H] at a5;have q:=qjJ (P:=P) (ty:=o.type) he hs ht (base:=V ⟨c,F+l * s,U⟩) (dLen:=z) (dCap:=W)
       (w':=M.w.setRow c (v.toList.take (F+l * s)++w.take (m * s)++v.toList.drop (F+l * s+m * s)).toArray) (E.len M.w) (by rw[hm];exact E.pre m C) a5
      rw[hm] at q;have b8:v.toList.length=v.size:=JF;obtain⟨st,r⟩:=mem_chg T hb a1 q1 g F n (f.take l++D.take m++f.drop (l+m))
       (v.toList.take (F+l * s)++w.take (m * s)++v.toList.drop (F+l * s+m * s)).toArray
       (Kq _) (λ_=>⟨rfl,rfl,K⟩) I (by rw[K];exact q2) q3 (qbn.put q4 (by rw[H]) wa (λu hu=>E.one u (KW hu))) (by
        intro i t j y B hj;have R:=qad hj;rw[I t (KX B)] at R;rw[KN,KO,KM,KM,KC (show l<=f.length by omega),KC C] at B;split at B
        .rw[KN,KM,KC (show l<=f.length by omega)] at B;split at B
         .rename_i g1 g2;rw[KR,if_pos g2] at B;obtain⟨u,u1,u2,u3⟩:=q5 i t j y B hj;refine⟨u,?_,u2,u3⟩;have b3:=qcd (sz:=s) g2 R;rw[KP,K4,KN,KM,if_pos wa,KR,if_pos wa,JE];exact u1
         .rename_i g1 g2;rw[KR,if_pos wa] at B;obtain⟨u,u1,u2,u3⟩:=E.rel _ t j y B hj;refine⟨u,?_,u2,u3⟩;have b3:(i - l) * s+j < m * s:=qcd wa R;have e:i * s=l * s+(i - l) * s:=by rw[<-Kr];congr 1;omega
          rw[KP,KN,KO,KM,H,if_pos wa,KN,KM,if_neg wa,
           KR,if_pos wa,<-u1]
          congr 1;omega
        .rename_i g1;rw[KT] at B;rw[show l+m+(i - (l+m))=i by omega] at B;obtain⟨u,u1,u2,u3⟩:=q5 i t j y B hj;refine⟨u,?_,u2,u3⟩;have b4:(l+m) * s<=i * s:=Ks _ wa;rw[Kr] at b4;rw[KP,KN,KO,KM,H,if_neg wa,KT,JE,<-u1];congr 1;omega)
      have S:putβ M.β b (V (c,F,n))=M.β:=by funext k;simp only[putβ];split<;>simp_all
      rw[S] at st r;exact⟨_,⟨_,_,M.β⟩,X _ (by rw[ev];exact q),st,r,rfl, .sc _ _⟩
    .cases h
   .cases h
  .cases h
 .cases h
def tpl(P:Program)(t:TypeId):Option (List (Nat × Nat)):=
 match P.underlying t with
 | some (.struct a)=>a.toList.mapM λf=>(P.info? f.type).map λi=>(f.offset,i.size)
 | _=>U
def iset(off:Nat):List IV->Nat->List IV->List IV
 | [],_,c=>c
 | x::r,j,c=>iset off r (j+1) (c.set (off+j) x)
def qb7(p:Nat->Option (Nat × Nat))(cs:List IV):List (Nat × IV)->Option (List IV)
 | []=>V cs
 | (i,x)::r=>match p i,qbx x with
   | some (a,s),V b=>if b.length=s/\a+s<=cs.length then qb7 p (iset a b 0 cs) r else U
   | _,_=>U
def qeP(P:Program)(t:TypeId)(parts:List (Nat × IV)):Option FR:=
 match tze P t with
 | some z=>if z.all (·.oneCell') then
   match tpl P t,tar P t with
   | some p,_=>(qb7 (p[·]?) (zcs z) parts).map λc=> {x:= .agg c}
   | none,V (_,e)=>match tsz P e with
     | some n=>(qb7 (λi=>V (i * n,n)) (zcs z) parts).map λc=> {x:= .agg c}
     | none=>U
   | _,_=>U
   else U
 | none=>U
def qaO.set{M cs vs}(h:qaO M cs vs)(k){x v}(d:v.oneCell'=Y)(f:VRel M x v):qaO M (cs.set k x) (vs.set k v):=by
 refine⟨by simp[h.len],λu a=>?_,λi y u b a=>?_⟩
 .rcases Jl a with c | c
  .exact h.one u c
  grind
 .rw[K8] at b a;split at b
  .grind
  .rename_i e;rw[if_neg e] at a;exact h.rel i y u b a
def vset(off:Nat):List Value->Nat->List Value->List Value
 | [],_,c=>c
 | x::r,j,c=>vset off r (j+1) (c.set (off+j) x)
def qmd{M}(off): ∀ {xs} {us} (j) {cs} {vs},qaO M xs us->qaO M cs vs->qaO M (iset off xs j cs) (vset off us j vs)
 | [],us,j,cs,vs,a,h=>by
   have:=KY (by simpa using a.len);subst this;exact h
 | x::xs,us,j,cs,vs,a,h=>by
   cases us with
   | nil=>have:=a.len;grind
   | cons u us=>
     have c:=a.rel 0 x u rfl rfl;have d:=a.one u wb;exact qmd off (j+1) ⟨by simpa using a.len,λv b=>a.one v (K7 _ b),λi y v e b=>a.rel (i+1) y v wg wg⟩ (h.set _ d c)
def qji(off): ∀(us:List Value) (j) (a:Array Value),((us.zipIdx j).foldl (λcs p=>cs.setIfInBounds (off+p.2) p.1) a)=⟨vset off us j a.toList⟩
 | [],j,a=>by rfl
 | u::us,j,a=>by
   simp[vset];rw[qji off us (j+1)];simp
def qhB{M:Mem}{a:Nat->Option (Nat × Nat)}: ∀ {ps:List (Nat × IV)} {us:List (Nat × Value)} {cs c:List IV} {vs:List Value},qb7 a cs ps=V c->us.length=ps.length->
  (∀(k:Nat) p u,ps[k]? =V p->us[k]? =V u->u.1=p.1/\VRel M p.2 u.2)->qaO M cs vs-> ∃vs':List Value,Instr.fill a ⟨vs⟩ us=V ⟨vs'⟩/\qaO M c vs'
 | [],us,cs,c,vs,h,d,_,e=>by
   have:us= []:=KY (by simpa using d);subst this;simp only[qb7,Option.some.injEq] at h;subst h;exact⟨vs,rfl,e⟩
 | (i,x)::ps,us,cs,c,vs,h,d,j,e=>by
   cases us with
   | nil=>simp at d
   | cons u us=>
     obtain⟨l,f⟩:=j 0 (i,x) u rfl rfl;unfold qb7 at h;split at h
     .rename_i b s B g q;split at h
      .rename_i r;obtain⟨w,m,n⟩:=qhy q f;obtain⟨vs',t,y⟩:=qhB (us:=us) (vs:=vset b w 0 vs) h (by simpa using d) (λk p v g f=>j (k+1) p v (by simpa using g) (by simpa using f)) (qmd b 0 n e);refine⟨vs',?_,y⟩;obtain⟨C,D⟩:=u;simp only at l m;subst l;have z:=n.len;have A:=e.len;unfold Instr.fill;simp only[g,m,KV];rw[if_neg wm];rw[<-t];congr 1;rw[show(⟨w⟩:Array Value).zipIdx=(w.zipIdx).toArray from by simp];rw[<-Array.foldl_toList];have:=qji b w 0 ⟨vs⟩;simpa using this
      .cases h
     .cases h
def rparts(ρ:Operand->Option IV):List (Nat × Operand)->Option (List (Nat × IV))
 | []=>V []
 | (i,y)::r=>match ρ y,rparts ρ r with
   | some z,V a=>V ((i,z)::a)
   | _,_=>U
def qdf{M}{a:Act}: ∀ {ps zs},rparts ρ ps=V zs->(∀p∈ps,∀z,ρ p.2=V z->VRel M z (a.eval p.2))->
  (ps.map λp=>(p.1,a.eval p.2)).length=zs.length/\ ∀(k:Nat) p u,zs[k]? =V p->(ps.map λp=>(p.1,a.eval p.2))[k]? =V u->u.1=p.1/\VRel M p.2 u.2
 | [],zs,h,_=>by simp_all[rparts]
 | (i,y)::r,zs,h,e=>by
   unfold rparts at h;split at h
   .rename_i z g j c;obtain⟨f,l⟩:=qdf (M:=M) (a:=a) c λp b=>e p (K7 _ b)
    grind
   grind
def qrR{t:TypeId}{parts:List (Nat × Operand)}{zs:List (Nat × IV)}{fr:FR}(F:o.op= .build t ⟨parts⟩)(H:rparts ρ parts=V zs)(h:qeP P t zs=V fr):fr.ok P o ρ:=by
 unfold qeP at h;split at h
 .rename_i q B;split at h
  .rename_i I;have b:=B;unfold tze at b;cases r:P.info? t with
   | none=>simp[r] at b
   | some J=>
     cases j:J.zero with
     | none=>simp[r,j] at b
     | some z=>
       simp only[r,j,Js,Jp,Option.some.injEq] at b;have s:z.cells=⟨q⟩:=by rw[<-b]
       have u: ∀(d:Nat->Option (Nat × Nat)) (l:List IV),qb7 d (zcs q) zs=V l->(∀y c,Instr.fill d ⟨q⟩ y=V c->P.built t y=V c)->qbl P o ρ [] [] (.agg l) []:=by
        intro d l k K;refine .read λM a _ _ L=>?_;obtain⟨N,O⟩:=qdf (M:=M) (a:=a) H λp Q=>L p.2 (by
         simp only[F,Ka];simp;exact⟨p.1,Q⟩)
        obtain⟨v,R,C⟩:=qhB k N O (qcL M I);have w:=run_build (P:=P) M.w t ⟨parts.map λp=>(p.1,a.eval p.2)⟩ ⟨v⟩ (K _ _ R);refine⟨.agg ⟨v⟩,?_, .agg _ _ C.len C.one C.rel⟩;simp_all[execOp,Km]
       split at h
       .rename_i S g;cases k:qb7 (S[·]?) (zcs q) zs with
        | none=>simp[k] at h
        | some l=>
          simp only[k,Jp,Option.some.injEq] at h;subst h;refine u _ l k λy c f=>?_;unfold tpl at g;split at g
          .rename_i T D;unfold Program.built;simp only[r,D,j,g,s];simpa using f
          .cases g
       .rename_i e g E;split at h
        .rename_i n A;cases k:qb7 (λi=>V (i * n,n)) (zcs q) zs with
         | none=>simp[k] at h
         | some l=>
           simp only[k,Jp,Option.some.injEq] at h;subst h;refine u _ l k λy c f=>?_;have D:=qhc E;unfold tsz at A;cases m:P.info? e with
           | none=>simp[m] at A
           | some W=>
             simp only[m,Jp,Option.some.injEq] at A;unfold Program.built;simp only[r,D,j,m,s,A];exact f
        .cases h
       .cases h
  .cases h
 .cases h
end Go.Idl
namespace Go.Idl
variable{P:Program}{o:Oper}{ρ:Operand->Option IV}{G:Nat->Option IBlk}
def pvs:List IV->Option (List PV)
 | []=>V []
 | .p x::r=>(pvs r).map (x::·)
 | _=>U
def qiu: ∀ {cs ps},pvs cs=V ps->cs=ps.map .p
 | [],ps,h=>by simp_all[pvs]
 | x::r,ps,h=>by
   unfold pvs at h;split at h
   .grind
   .rename_i y g e;injection e with c d
    subst c;subst d;cases a:pvs r with
    | none=>grind
    | some f=>simp[a] at h;subst h;rw[qiu a];rfl
   grind
def qa7{a:Type}(sz n:Nat)(l:List a):List (List a):=(KZ n).map λi=>(l.drop (i * sz)).take sz
def qf5{c sz n l i j r}{x:c}(d:(qa7 sz n l)[i]? =V r)(b:r[j]? =V x):i < n/\j < sz/\l[i * sz+j]? =V x:=by grind[qa7]
def qf6{b sz n}{l:List b}(h:l.length=n * sz): ∀r∈qa7 sz n l,r.length=sz:=by
 intro r a;simp[qa7] at a;obtain⟨i,c,rfl⟩:=a;have:(i+1) * sz<=n * sz:=Ks _ c
 grind
def flit(P:Program)(t:TypeId)(len:Nat)(parts:List (Nat × IV)):Option (Nat × List IV):=
 match tel P t with
 | some e=>match tsz P e,tze P e with
   | some s,V z=>if z.all (·.oneCell')/\z.length=s/\len * s<=16777216/\0 < s then
     (qb7 (λi=>V (i * s,s)) (KQ len (zcs z)).flatten parts).map λc=>(s,c)
     else U
   | _,_=>U
 | none=>U
def qjp{p}: ∀ {ps cs c},qb7 p cs ps=V c->c.length=cs.length
 | [],cs,c,h=>by simp_all[qb7]
 | (i,x)::ps,cs,c,h=>by
   unfold qb7 at h;split at h
   .rename_i b s a f g;split at h
    .have:=qjp h;have d: ∀(a) (j) (cs),(iset b a j cs).length=cs.length:=by
      intro a;induction a<;>simp_all[iset]
     grind
    grind
   grind
def run_lit{t:TypeId}{len:Nat}{parts:List (Nat × IV)}{sz:Nat}{cs:List IV}(h:flit P t len parts=V (sz,cs)):
  cs.length=len * sz/\len<=maxLen/\ ∃e,∀(M:Mem) (us:List (Nat × Value)),us.length=parts.length->
   (∀(k:Nat) p u,parts[k]? =V p->us[k]? =V u->u.1=p.1/\VRel M p.2 u.2)->
   ∃vs:List Value,qaO M cs vs/\(Instr.buildSlice t len ⟨us⟩).run P M.w= .ok (.slice (V ⟨M.w.heap.size,0,U⟩) len len) (M.w.alloc (.cells ⟨vs⟩ e)):=by
 unfold flit at h;split at h
 .rename_i e Q;split at h
  .rename_i s b R S;split at h
   .rename_i C;obtain⟨T,l,J,K⟩:=C;cases m:qb7 (λi=>V (i * s,s)) (KQ len (zcs b)).flatten parts with
    | none=>simp[m] at h
    | some W=>
      simp only[m,Jp,Option.some.injEq,Prod.mk.injEq] at h;obtain⟨rfl,rfl⟩:=h;have d:(KQ len (zcs b)).flatten.length=len * s:=by simp[zcs,l]
      refine⟨(qjp m).trans d,by have:len * 1<=len * s:=Nat.mul_le_mul_left _ K;unfold maxLen;omega,e,λM us D E=>?_⟩;obtain⟨z,F,H⟩:=qi8 S;have f:=qcL M T;have c: ∀k,k < len * s->((KQ len b).flatten)[k]? =b[k % s]? :=by
       intro k r;obtain⟨i,j,q,X,rfl⟩:=qfo r;have L:(i * s+j) % s=j:=by rw[Ku,KA,KB X]
       rw[L];clear r L d m D E J;induction len generalizing i with
       | zero=>omega
       | succ n w=>
         rw[Jb,Ji,KN];cases i with
         | zero=>rw[if_pos wa];simp
         | succ i=>
           rw[if_neg (by rw[l,Kr];omega)];have:=w i wa;rw[<-this,l];congr 1;rw[Kr];omega
      have y:qaO M (KQ len (zcs b)).flatten (KQ len b).flatten:=by
       clear d m D E J c;induction len with
       | zero=>exact⟨rfl,wb,wb⟩
       | succ n w=>
         rw[Jb,Jb,Ji,Ji];have A:(zcs b).length=b.length:=f.len.symm;refine⟨by simp only[KO,w.len,A],λv g=>?_,λi x v q g=>?_⟩
         .rcases List.mem_append.1 g with h | h
          .exact f.one v h
          .exact w.one v h
         .rw[KN] at q g;rw[A] at q;split at q
          .rename_i h;rw[if_pos h] at g;exact f.rel i x v q g
          .rename_i h;rw[if_neg h] at g;exact w.rel _ x v q g
      obtain⟨vs,N,g2⟩:=qhB m D E y;refine⟨vs,g2,?_⟩;have a:(Array.range (len * s)).map (λk=>(if len * s=0 then(#[]:Array Value) else⟨b⟩)[k % (if len * s=0 then(#[]:Array Value) else⟨b⟩).size]!)=⟨(KQ len b).flatten⟩:=by
       apply JJ;apply List.ext_getElem?
       intro k;simp only[Array.toList_map,Array.toList_range];by_cases r:k < len * s
       .have I: ¬len * s=0:=wa
        have O:k % s < b.length:=by rw[l];exact Kx _ K
        rw[c k r,K6,List.getElem?_range r];simp only[Jp,I,if_false,KV,l];rw[KS O,getElem!_pos (⟨b⟩:Array Value) (k % s) (by simpa using O)];rfl
       .rw[K1 wm,K1 (by simp[l];omega)]
      unfold Instr.buildSlice;rw[Km,run_underlying (und_tel Q)];simp only[Kp,Km,qaD R];rw[if_neg (by simp only[KL];omega)];by_cases B:len * s=0
      .simp only[B,if_true] at a;simp only[B,if_true,Km,Kn,Kp,a,N,newRow,run_newObj,JV]
      .simp only[B,if_false] at a;simp only[B,if_false,Km,Kn,Kp,H,F,a,N,newRow,run_newObj,JV]
   .cases h
  .cases h
 .cases h
def tlit(P:Program)(t:TypeId):Bool:=
 match tel P t with
 | some e=>match tkd P e with
   | some (.int _)=>Y
   | some .string=>Y
   | some .bool=>Y
   | some (.float _)=>Y
   | _=>Z
 | none=>Z
def qnr(P:Program)(t:TypeId):Bool->Nat->Bool
 | _,0=>Y
 | true,_+1=>Y
 | false,_+1=>match tlit P t with
   | true=>Z
   | false=>Y
def qc3(P:Program)(nx:Nat)(v:Bool)(t:TypeId)(len:Nat)(parts:List (Nat × IV)):Option FR:=
 match flit P t len parts with
 | some (s,c)=>match pvs c,qnr P t v len with
   | some a,Y=>V {x:=if len=0 then .p .emp else .p (.imm s (qa7 s len a))}
   | _,_=>V {x:= .ref nx 0 0 len,F:= [nx],W:= [(nx, .arr s 0 (qa7 s len c))]}
 | none=>U
def qli{nx:Nat}{v:Bool}{t:TypeId}{len:Nat}{parts:List (Nat × Operand)}{zs:List (Nat × IV)}{fr:FR}(n:o.op= .buildSlice t len ⟨parts⟩)(X:rparts ρ parts=V zs)
  (h:qc3 P nx v t len zs=V fr):fr.ok P o ρ:=by
 unfold qc3 at h;split at h
 .rename_i f cs hl;split at h
  .rename_i I A _;simp only[Option.some.injEq] at h;subst h;obtain⟨d,k,e,b⟩:=run_lit hl;have B:=qiu A;refine .does λM a q _ _ J=>?_;obtain⟨K,L⟩:=qdf (M:=M) (a:=a) X λp A=>J p.2 (by
    simp only[n,Ka];simp;exact⟨p.1,A⟩)
   obtain⟨l,z,N⟩:=b M (parts.map λp=>(p.1,a.eval p.2)) K L;have C:=z.len;refine⟨.slice (V ⟨M.w.heap.size,0,U⟩) len len, {M with w:=M.w.alloc (.cells ⟨l⟩ e)},?_, .alloc q _,q.alloc _,rfl,?_⟩
   .simp only[execOp,n,Km];have e:(JI (λx=>(x.1,a.eval x.2)) ⟨parts⟩:Array (Nat × Value))=⟨parts.map λp=>(p.1,a.eval p.2)⟩:=wb
    rw[show(JI (λx:Nat × Operand=>match x with | (i,x)=>(i,a.eval x)) ⟨parts⟩:Array (Nat × Value))=⟨parts.map λp=>(p.1,a.eval p.2)⟩ from e,N];rfl
   .have D: ¬({M with w:=M.w.alloc (.cells ⟨l⟩ e)}:Mem).own M.w.heap.size:=λn=>absurd (q.lt (c:=M.w.heap.size) n) wa
    split
    .rename_i h0;subst h0;exact .p _ _ (.emp _)
    .have O:I.length=len * f:=by rw[<-d,B];simp
     have E:(qa7 f len I).length=len:=by simp[qa7]
     have F:PRel (M.w.alloc (.cells ⟨l⟩ e)) ({M with w:=M.w.alloc (.cells ⟨l⟩ e)}:Mem).own (.imm f (qa7 f len I)) (.slice (V ⟨M.w.heap.size,0,U⟩) (qa7 f len I).length len):=by
      refine .mk_imm (c:=M.w.heap.size) (o:=0) wa k (λ_=>⟨rfl,wb,D⟩) (λi m H=>qf6 O m (KX H)) ?_;intro i m j y H Q;obtain⟨_,_,R⟩:=qf5 H Q;obtain⟨u,S,T,W⟩:=(z.step (.alloc q (.cells ⟨l⟩ e))).get (i:=i * f+j) (x:= .p y) (by rw[B];simp[R]);refine⟨u,by simpa using S,T,?_⟩;cases W with
      | p x v h=>exact h
     rw[E] at F;exact .p _ _ F
  .simp only[Option.some.injEq] at h;subst h;obtain⟨d,k,e,b⟩:=run_lit hl;refine .does λM a q _ hF J=>?_;obtain⟨K,L⟩:=qdf (M:=M) (a:=a) X λp A=>J p.2 (by
    simp only[n,Ka];simp;exact⟨p.1,A⟩)
   obtain⟨l,z,N⟩:=b M (parts.map λp=>(p.1,a.eval p.2)) K L;have C:=z.len;obtain⟨s,r⟩:=qdt q nx (hF nx wb) f 0 len (qa7 f len cs) ⟨l⟩ e (qf6 d) (by simp[qa7]) k (qbn.all (by simp[C,d]) (by simpa using z.one)) (by
    intro i m j x H Q;obtain⟨_,_,R⟩:=qf5 H Q;obtain⟨u,S,T,W⟩:=z.get R;exact⟨u,by simpa using S,T,W⟩)
   refine⟨.slice (V ⟨M.w.heap.size,0,U⟩) len len,_,?_,s,r,rfl,?_⟩
   .simp only[execOp,n,Km];have e:(JI (λx=>(x.1,a.eval x.2)) ⟨parts⟩:Array (Nat × Value))=⟨parts.map λp=>(p.1,a.eval p.2)⟩:=wb
    rw[show(JI (λx:Nat × Operand=>match x with | (i,x)=>(i,a.eval x)) ⟨parts⟩:Array (Nat × Value))=⟨parts.map λp=>(p.1,a.eval p.2)⟩ from e,N];rfl
   .refine .ref nx 0 0 len _ (.inr rfl) ⟨_,_,rfl⟩ λa0 g=>?_;simp only[AH.put,if_true,Option.some.injEq] at g;subst g;refine⟨Kq _,λ_=>⟨_,_,rfl,wa,vi,vi, .inr ⟨M.w.heap.size,0,len,wr,wb,wa⟩⟩⟩
 .cases h
end Go.Idl
namespace Go.Idl
def look{a:Type}:List (Nat × a)->Nat->Option a
 | [],_=>U
 | (k,x)::r,i=>if k=i then V x else look r i
theorem qae{a}(l m:List (Nat × a))(i):look (l++m) i=match look l i with | some x=>V x | none=>look m i:=wN
def look_mem{a l i}{x:a}(h:look l i=V x):(i,x)∈l:=wN
def look_none{b}{l:List (Nat × b)}{i}(h:look l i=U): ∀p∈l,p.1≠i:=wN
structure IH where
 nx:Nat
 m:List (Nat × IBlk)
structure IDef where
 fn:Fn
 cap:List IV
 args:List IV
structure qab where
 n:Nat
 s:List (Nat × IV)
 d:List IDef
 nx:Nat
 l:List (Nat × IBlk)
def cst:Value->Option IV
 | .agg c=>if c.all (·.oneCell') then V (.agg (c.toList.map λv=> .p (.sc v))) else U
 | .tuple _=>U
 | v=>V (.p (.sc v))
def ev(s:List (Nat × IV)):Operand->Option IV
 | .tmp t=>look s t
 | .const v=>cst v
 | .func f=>V (.p (.sc (.func (.func f) #[] #[])))
 | .global _=>U
structure HRel(nx:Nat)(m:List (Nat × IBlk))(M:Mem):Prop where
 rel:MRel M
 A: ∀b,M.H.A b->b < nx
 G: ∀b,M.H.G b=look m b
structure DRel0(M:Mem)(x:IDef)(d:Deferred):Prop where
 ex: ∃vc va:List Value,d= {target:= .fn x.fn ⟨vc⟩,args:=⟨va⟩}/\vc.length=x.cap.length/\va.length=x.args.length/\
  (∀(i:Nat) (y:IV) (v:Value),x.cap[i]? =V y->vc[i]? =V v->VRel M y v)/\(∀(i:Nat) (y:IV) (v:Value),x.args[i]? =V y->va[i]? =V v->VRel M y v)
def qov(b:Nat):IDef:=⟨.yield 0, [], [.mp b]⟩
def DRel(M:Mem)(x:IDef)(d:Deferred):Prop:=match x.fn with
 | .yield _=> ∃b D,x=qov b/\d= {target:= .collected D,args:=#[]}/\VRel M (.mp b) (hnd 4 D)
 | _=>DRel0 M x d
def qeo(M:Mem):List IDef->List Deferred->Prop
 | [], []=>True
 | x::a,d::b=>DRel M x d/\qeo M a b
 | _,_=>False
def DRel.step{M M'}(s:qaf M M'){x d}(h:DRel M x d):DRel M' x d:=by
 unfold DRel at h ⊢;split at h
 .obtain⟨b,D,a,c,f⟩:=h;exact⟨b,D,a,c,f.step s⟩
 .obtain⟨k,l,e,a,c,f,m⟩:=h.ex;exact⟨k,l,e,a,c,λi y v g j=>(f i y v g j).step s,λi y v g j=>(m i y v g j).step s⟩
def qeo.step{M M'}(s:qaf M M'): ∀ {xs d},qeo M xs d->qeo M' xs d
 | [], [],_=>trivial
 | _::_,_::_,h=>⟨h.1.step s,qeo.step s h.2⟩
 | [],_::_,h=>h.elim
 | _::_, [],h=>h.elim
structure SRel(h0:IH)(S:qab)(M:Mem)(a:Act):Prop where
 heap:HRel S.nx (S.l++h0.m) M
 size:a.tmps.size=S.n
 slot: ∀i x,look S.s i=V x-> ∃v,a.tmps[i]? =V v/\VRel M x v
 defs:qeo M S.d a.defers
def qaF{s:List (Nat × IV)}{M:Mem}{a:Act}(h: ∀i x,look s i=V x-> ∃v,a.tmps[i]? =V v/\VRel M x v){y:Operand}{z:IV}(b:ev s y=V z):VRel M z (a.eval y):=by
 cases y with
 | tmp t=>
   obtain⟨v,c,d⟩:=h t z b;simp_all[Act.eval,Array.getD_eq_getD_getElem?,Jt]
 | const v=>
   simp only[ev] at b;unfold cst at b;split at b
   .rename_i e;split at b
    .rename_i j;simp only[Option.some.injEq] at b;subst b;have:=qcL M (zs:=e.toList) (by simpa using j);exact .agg _ _ this.len this.one this.rel
    .cases b
   .cases b
   .simp only[Option.some.injEq] at b;subst b;exact .sc M v
 | func f=>simp only[ev,Option.some.injEq] at b;subst b;exact .sc M _
 | global g=>simp[ev] at b
def qab.put(S:qab)(dst:Option Tmp)(x:IV)(nx:Nat)(W:List (Nat × IBlk)):qab:=
 {n:=S.n,s:=match dst with | some d=>(d,x)::S.s | none=>S.s,d:=S.d,nx,l:=W++S.l}
def qaC(S:qab):Option Tmp->Bool
 | some d=>decide (d < S.n)
 | none=>Y
def SRel.step{h0:IH}{S:qab}{M M':Mem}{a:Act}(h:SRel h0 S M a)(s:qaf M M'){dst:Option Tmp}{x:IV}{v:Value}{nx:Nat}{W:List (Nat × IBlk)}
  (j:qaC S dst=Y) (k:VRel M' x v) (l:HRel nx (W++S.l++h0.m) M'):SRel h0 (S.put dst x nx W) M' (a.put dst v):=by
 refine⟨l,?_,?_,?_⟩
 .cases dst with
  | none=>exact h.size
  | some d=>simp only[Act.put,Array.size_setIfInBounds];exact h.size
 .intro i y b;cases dst with
  | none=>
    obtain⟨u,c,f⟩:=h.slot i y b;exact⟨u,c,f.step s⟩
  | some d=>
    simp only[qab.put,look] at b;split at b
    .rename_i e;subst e;cases b;have g:d < a.tmps.size:=by rw[h.size];simpa[qaC] using j
     exact⟨v,by simp[Act.put,g],k⟩
    .rename_i e;obtain⟨u,c,f⟩:=h.slot i y b;exact⟨u,by simp_all[Act.put],f.step s⟩
 .have:(a.put dst v).defers=a.defers:=by cases dst<;>rfl
  rw[this];exact h.defs.step s
def HRel.upd{nx:Nat}{m:List (Nat × IBlk)}{M M':Mem}(h:HRel nx m M)(d:MRel M'){W:List (Nat × IBlk)}(c:M'.H=M.H.upd W)(n:Nat)
  (f: ∀b,(b < nx\/ ∃blk,(b,blk)∈W)->b < n):HRel n (W.reverse++m) M':=by
 have a: ∀(W:List (Nat × IBlk)) (H:AH),(∀b,(H.upd W).A b↔H.A b\/ ∃blk,(b,blk)∈W)/\ ∀b,(H.upd W).G b=match look W.reverse b with | some x=>V x | none=>H.G b:=by
  intro W;induction W with
  | nil=>intro H;exact⟨λb=>by simp[AH.upd],λb=>rfl⟩
  | cons p W i=>
    intro H;obtain⟨k,x⟩:=p;obtain⟨g,j⟩:=i (H.put k x);refine⟨λb=>?_,λb=>?_⟩
    .show((H.put k x).upd W).A b↔_
     grind[AH.put,Prod.mk.injEq]
    .show((H.put k x).upd W).G b=_;rw[j b,List.reverse_cons,qae];cases o:look W.reverse b with
     | some y=>rfl
     | none=>
       simp only[AH.put,look];by_cases e:b=k
       .subst e;simp
       .rw[if_neg e,if_neg (λh=>e h.symm)]
 refine⟨d,λb=>?_,λb=>?_⟩
 .rw[c,(a W M.H).1 b];exact λl=>f b (l.imp (h.A b) id)
 .rw[c,(a W M.H).2 b,qae,h.G b];cases look W.reverse b<;>rfl
variable{P:Program}{o:Oper}{ρ:Operand->Option IV}{G:Nat->Option IBlk}
inductive XK where
 | bits | frombits | floor
 deriving DecidableEq
def qqm:XK->String
 | .bits=> "math.Float64bits"
 | .frombits=> "math.Float64frombits"
 | .floor=> "math.archFloor"
def fxk(P:Program)(n:FuncId):Option XK:=
 match P.funcs[n]? with
 | some f=>if f.body.isNone && f.origin== "" then
   if f.name== "math.Float64bits" then V .bits else if f.name== "math.Float64frombits" then V .frombits else if f.name== "math.archFloor" then V .floor else U
   else U
 | none=>U
def qnk(x:Nat):Option Value:=
 match FloatKind.f64.decode x with
 | .nan _ _=>U
 | d=>V (.float .f64 (FloatKind.f64.encode (d.integral .down)))
def fext:XK->List IV->Option Value
 | .bits, [.p (.sc (.float .f64 b))]=>V (.int .u64 b)
 | .frombits, [.p (.sc (.int .u64 n))]=>V (.float .f64 n.toNat)
 | .floor, [.p (.sc (.float .f64 x))]=>qnk x
 | _,_=>U
def qf9(P:Program)(ρ:Operand->Option IV)(f:Operand)(args:List Operand):Option FR:=
 match ρ f,rlist ρ args with
 | some (.p (.sc (.func (.func n) ⟨[]⟩ ⟨[]⟩))),V z=>match fxk P n with
   | some k=>(fext k z).map λv=> {x:= .p (.sc v)}
   | none=>U
 | _,_=>U
def qgu{s:String}(h:Extern.allNextRows.lookup s=U){fn:Func}(a:fn.name=s)(b:fn.origin= ""):Extern.findNext fn=U:=by
 have c:Extern.allNextRows.lookup "" =U:=by rfl
 grind[Extern.findNext]
def qgd{s e}(h:Extern.allGenericRows.lookup s=U)(a:Extern.allTypedRows.lookup s=U)(b:Extern.allRows.lookup s=V e){fn}(c:fn.name=s):Extern.find fn=V e:=by grind[Extern.find]
def qr4{n:FuncId}{k:XK}(h:fxk P n=V k)(args:Array Value)(w:World):
  ∃e,Extern.allRows.lookup (qqm k)=V e/\(callFunc n args).run P w=((e args).run P w).andThen λv w'=> .ok (.value v) w':=by
 unfold fxk at h;split at h
 .rename_i f c;split at h
  .rename_i b;simp only[JS,beq_iff_eq] at b;split at h
   .rename_i a;have a:=beq_iff_eq.1 a;cases h;refine⟨_,(by kernel_rfl:Extern.allRows.lookup "math.Float64bits" =V Extern.MathFloatBits.float64bits),?_⟩;exact run_callFunc_extern c (by rw[a];rfl) b.1 (qgu (by kernel_rfl) a b.2) (qgd (by kernel_rfl) (by kernel_rfl) (by kernel_rfl) a) args w
   .split at h
    .rename_i a;have a:=beq_iff_eq.1 a;cases h;refine⟨_,(by kernel_rfl:Extern.allRows.lookup "math.Float64frombits" =V Extern.MathFloatBits.float64frombits),?_⟩;exact run_callFunc_extern c (by rw[a];rfl) b.1 (qgu (by kernel_rfl) a b.2) (qgd (by kernel_rfl) (by kernel_rfl) (by kernel_rfl) a) args w
    .split at h
     .rename_i a;have a:=beq_iff_eq.1 a;cases h;refine⟨_,(by kernel_rfl:Extern.allRows.lookup "math.archFloor" =V (Extern.MathFloor.toIntegral "math.archFloor" .down)),?_⟩;exact run_callFunc_extern c (by rw[a];rfl) b.1 (qgu (by kernel_rfl) a b.2) (qgd (by kernel_rfl) (by kernel_rfl) (by kernel_rfl) a) args w
     .cases h
  .cases h
 .cases h
def floor_number{x s m e}(h:FloatKind.f64.decode x= .number s m e):
  Extern.MathFloor.toIntegral "math.archFloor" .down #[.float .f64 x]=pure (.float .f64 (FloatKind.f64.encode ((Ieee.Datum.number s m e).integral .down))):=by
 conv=>lhs;whnf
 rw[h]
def qiS{x s}(h:FloatKind.f64.decode x= .infinity s):
  Extern.MathFloor.toIntegral "math.archFloor" .down #[.float .f64 x]=pure (.float .f64 (FloatKind.f64.encode ((Ieee.Datum.infinity s).integral .down))):=by
 conv=>lhs;whnf
 rw[h]
def qqF{k:XK}{zs:List IV}{v:Value}(h:fext k zs=V v){M:Mem}{vs:List Value}(j:vs.length=zs.length)(l: ∀(i:Nat) (x:IV) (v:Value),zs[i]? =V x->vs[i]? =V v->VRel M x v)
  {e:Array Value->Sem Value} (g:Extern.allRows.lookup (qqm k)=V e) (w:World):(e ⟨vs⟩).run P w= .ok v w:=by
 unfold fext at h;have c: ∀ {u:Value},zs= [.p (.sc u)]->vs= [u]:=by
  intro u q;subst q
  match vs,j with
  | [x],_=>have:=(l 0 _ x rfl rfl).sc_inv;rw[this]
 split at h
 .rename_i b;have a:=c rfl;subst a;cases h;have d:e=Extern.MathFloatBits.float64bits:=Option.some.inj (g.symm.trans (by kernel_rfl:Extern.allRows.lookup "math.Float64bits" =V Extern.MathFloatBits.float64bits));subst d;rfl
 .rename_i n;have a:=c rfl;subst a;cases h;have d:e=Extern.MathFloatBits.float64frombits:=Option.some.inj (g.symm.trans (by kernel_rfl:Extern.allRows.lookup "math.Float64frombits" =V Extern.MathFloatBits.float64frombits));subst d;rfl
 .rename_i x;have a:=c rfl;subst a;have d:e=Extern.MathFloor.toIntegral "math.archFloor" .down:=Option.some.inj (g.symm.trans (by kernel_rfl:Extern.allRows.lookup "math.archFloor" =V (Extern.MathFloor.toIntegral "math.archFloor" .down)));subst d;show(Extern.MathFloor.toIntegral "math.archFloor" .down #[.float .f64 x]).run P w=_;unfold qnk at h;cases f:FloatKind.f64.decode x with
  | nan s t=>rw[f] at h;cases h
  | number s m e=>rw[f] at h;cases h;rw[floor_number f];rfl
  | infinity s=>rw[f] at h;cases h;rw[qiS f];rfl
 .cases h
def f_callx{f args ts fr}(b:o.op= .call {callee:= .value f,args:=⟨args⟩,argTypes:=ts})(h:qf9 P ρ f args=V fr):fr.ok P o ρ/\fr.R= []/\fr.F= []/\fr.W= []:=by
 unfold qf9 at h;split at h
 .rename_i n A i j;split at h
  .rename_i k l;simp[Jq] at h;obtain⟨v,m,rfl⟩:=h;refine⟨qbl.read λM a _ _ d=>⟨v,?_, .sc M v⟩,rfl,rfl,rfl⟩;have p:=λz c=>d f (by simp[b,Ka,Call.operands]) z c
   have q: ∀y∈args,∀z,ρ y=V z->VRel M z (a.eval y):=λy r z c=>d y (by simp[b,Ka,Call.operands,r]) z c
   have e:=(p _ i).sc_inv;obtain⟨s,t⟩:=qbt (M:=M) (a:=a) j q;obtain⟨g,u,w⟩:=qr4 l ⟨args.map a.eval⟩ M.w;have x:=qqF (P:=P) m s t u M.w;simp_all[execOp,resolve,Deferred.ofValue,invoke,K0]
  simp_all
 simp_all
end Go.Idl
namespace Go.Idl
variable{P:Program}{o:Oper}{ρ:Operand->Option IV}{G:Nat->Option IBlk}
def qc4:BinOp->Nat->Nat->Option Nat
 | .add,a,b=>Ieee.double.add a b
 | .sub,a,b=>Ieee.double.sub a b
 | .mul,a,b=>Ieee.double.mul a b
 | .quo,a,b=>Ieee.double.div a b
 | _,_,_=>V 0
def qgS:BinOp->Option FR
 | .eql | .lss | .leq | .gtr | .geq=>V {x:=scb Z}
 | .neq=>V {x:=scb Y}
 | .add | .sub | .mul | .quo=>V {x:= .p (.nan .f64)}
 | _=>U
def qeg(op:BinOp):IV->IV->Option FR
 | .p (.sc (.float .f64 a)), .p (.sc (.float .f64 b))=>match qc4 op a b with
   | none=>V {x:= .p (.nan .f64)}
   | some _=>U
 | .p (.nan .f64), .p (.sc (.float .f64 _))=>qgS op
 | .p (.sc (.float .f64 _)), .p (.nan .f64)=>qgS op
 | .p (.nan .f64), .p (.nan .f64)=>qgS op
 | _,_=>U
def qq0{r}(h:9218868437227405312 < r % 9223372036854775808):(Ieee.double.read r).isNaN=Y:=by
 have e:Ieee.double.signWeight=9223372036854775808:=wh
 have a:Ieee.double.binade=4503599627370496:=wh
 have b:Ieee.double.infRung=9218868437227405312:=wh
 unfold Ieee.Format.read;simp[e];rw[if_neg wa,if_neg wa,if_neg wa];rfl
def qsf(x y t):(Ieee.double.read ((Question.nanBits .f64 x y).cut t)).isNaN=Y:=by
 refine qq0 ?_;show 9218868437227405312 < ((t % 2) * 2 ^ 63+0x7ff0000000000000+1+(t / 2) % (2 ^ 52 - 1)) % 9223372036854775808
 grind
def qoB{a b}(h:(Ieee.double.read a).isNaN=Y):Ieee.double.order a b=U:=by
 unfold Ieee.Format.order;cases c:Ieee.double.read a with
 | nan s t=>rfl
 | number s m e=>rw[c] at h;cases h
 | infinity s=>rw[c] at h;cases h
def nan_order2{a b}(h:(Ieee.double.read b).isNaN=Y):Ieee.double.order a b=U:=by
 unfold Ieee.Format.order;cases c:Ieee.double.read b with
 | nan s t=>cases Ieee.double.read a<;>rfl
 | number s m e=>rw[c] at h;cases h
 | infinity s=>rw[c] at h;cases h
def nan_arith1{op a b}(h:(Ieee.double.read a).isNaN=Y)(d:op= .add\/op= .sub\/op= .mul\/op= .quo):qc4 op a b=U:=by
 cases c:Ieee.double.read a with
 | nan s t=>
   rcases d with rfl | rfl | rfl | rfl<;>simp[qc4,Ieee.Format.add,Ieee.Format.sub,Ieee.Format.mul,Ieee.Format.div,c]<;>rfl
 | number s m e=>rw[c] at h;cases h
 | infinity s=>rw[c] at h;cases h
def nan_arith2{op a b}(h:(Ieee.double.read b).isNaN=Y)(d:op= .add\/op= .sub\/op= .mul\/op= .quo):qc4 op a b=U:=by
 cases c:Ieee.double.read b with
 | nan s t=>
   rcases d with rfl | rfl | rfl | rfl<;>simp[qc4,Ieee.Format.add,Ieee.Format.sub,Ieee.Format.mul,Ieee.Format.div,c]<;>cases Ieee.double.read a<;>rfl
 | number s m e=>rw[c] at h;cases h
 | infinity s=>rw[c] at h;cases h
def run_arith{op}(c:op= .add\/op= .sub\/op= .mul\/op= .quo){t a b}(h:qc4 op a b=U)(x y w):
  ∃r,(do eqGuard op t x y (.float .f64 a) (.float .f64 b);binOp op t (.float .f64 a) (.float .f64 b):Sem Value).run P w= .ok (.float .f64 r) w.drew/\(Ieee.double.read r).isNaN=Y:=by
 refine⟨(Question.nanBits .f64 a b).cut (w.tape w.drawn (.nanBits .f64 a b)),?_,qsf _ _ _⟩;have d:(Question.nanBits FloatKind.f64 a b).forced=Z:=rfl;rw[Km,qaS op t x y wb wb w];rcases c with rfl | rfl | rfl | rfl<;>simp[qc4] at h<;>simp[binOp,Kd,FloatKind.format,h,d]
def qoS{op c}(d:(op= .eql\/op= .lss\/op= .leq\/op= .gtr\/op= .geq)/\c=Z\/op= .neq/\c=Y){t a b}(h:Ieee.double.order a b=U)(x y w):
  (do eqGuard op t x y (.float .f64 a) (.float .f64 b);binOp op t (.float .f64 a) (.float .f64 b):Sem Value).run P w= .ok (.bool c) w:=by
 have k: ∀v,qkd op .f64 a b=V v->(do eqGuard op t x y (.float .f64 a) (.float .f64 b);binOp op t (.float .f64 a) (.float .f64 b)).run P w= .ok v w:=λv f=>run_sbin (P:=P) (by simp[sbin,f]) x y w
 have e:FloatKind.f64.format.order a b=U:=h
 grind[qkd]
def f_nan1{op:BinOp}{t t':TypeId}{x y:Operand}{zx z:IV}{fr:FR}(f:o.op= .binOp op t x y t')(s:ρ x=V zx)(A:ρ y=V z)(h:qgS op=V fr)
  (B: ∀(M:Mem) (u v:Value),VRel M zx u->VRel M z v-> ∃a b,u= .float .f64 a/\v= .float .f64 b/\((Ieee.double.read a).isNaN=Y\/(Ieee.double.read b).isNaN=Y)):fr.ok P o ρ/\fr.R= []/\fr.F= []/\fr.W= []:=by
 have arith:(op= .add\/op= .sub\/op= .mul\/op= .quo)->fr= {x:= .p (.nan .f64)}->fr.ok P o ρ/\fr.R= []/\fr.F= []/\fr.W= []:=by
  rintro d rfl;refine⟨qbl.does λM a C _ _ g=>?_,rfl,rfl,rfl⟩;obtain⟨j,k,l,m,n⟩:=B M _ _ (g x vk zx s) (g y vk z A);obtain⟨r,e,q⟩:=run_arith (P:=P) d (t:=t) (a:=j) (b:=k) (n.elim (nan_arith1 · d) (nan_arith2 · d)) x y M.w;refine⟨.float .f64 r, {M with w:=M.w.drew},?_, .drew M,C.drew,rfl, .p _ _ (.nan _ _ q)⟩;simp only[execOp,f,l,m];rw[Km,e];rfl
 have i: ∀c:Bool,((op= .eql\/op= .lss\/op= .leq\/op= .gtr\/op= .geq)/\c=Z\/op= .neq/\c=Y)->fr= {x:=scb c}->fr.ok P o ρ/\fr.R= []/\fr.F= []/\fr.W= []:=by
  rintro c d rfl;refine⟨qbl.read λM a _ _ g=>?_,rfl,rfl,rfl⟩;obtain⟨j,k,l,m,n⟩:=B M _ _ (g x vk zx s) (g y vk z A);refine⟨.bool c,?_, .sc M _⟩;have e:=qoS (P:=P) d (t:=t) (a:=j) (b:=k) (n.elim qoB nan_order2) x y M.w;simp only[execOp,f,l,m];rw[Km,e];rfl
 cases op<;>simp only[qgS,Option.some.injEq,reduceCtorEq] at h
 all_goals first
  | exact arith wb h.symm
  | exact i Z (.inl ⟨wb,rfl⟩) h.symm
  | exact i Y (.inr ⟨rfl,rfl⟩) h.symm
def qrY{op:BinOp}{t t':TypeId}{x y:Operand}{zx z:IV}{fr:FR}(c:o.op= .binOp op t x y t')(i:ρ x=V zx)(j:ρ y=V z)(h:qeg op zx z=V fr):
  fr.ok P o ρ/\fr.R= []/\fr.F= []/\fr.W= []:=by
 have s: ∀ {M:Mem} {b:Nat} {u:Value},VRel M (.p (.sc (.float .f64 b))) u->u= .float .f64 b:=λh=>h.sc_inv
 have n: ∀ {M:Mem} {u:Value},VRel M (.p (.nan .f64)) u-> ∃b,u= .float .f64 b/\(Ieee.double.read b).isNaN=Y:=by
  intro M u h;cases h with
  | p _ _ h=>cases h with
    | nan k b q=>exact⟨b,rfl,q⟩
 unfold qeg at h;split at h
 .rename_i a b;split at h
  .rename_i A;cases h;refine⟨qbl.does λM F C _ _ B=>?_,rfl,rfl,rfl⟩;have D:=s (B x w0 _ i);have E:=s (B y w0 _ j);have l:op= .add\/op= .sub\/op= .mul\/op= .quo:=by
    cases op<;>simp[qc4] at A ⊢
   obtain⟨r,d,m⟩:=run_arith (P:=P) l (t:=t) A x y M.w;refine⟨.float .f64 r, {M with w:=M.w.drew},?_, .drew M,C.drew,rfl, .p _ _ (.nan _ _ m)⟩;simp only[execOp,c,D,E];rw[Km,d];rfl
  .cases h
 .exact f_nan1 c i j h λM u v e f=>by
   obtain⟨a,rfl,g⟩:=n e;exact⟨a,_,rfl,s f, .inl g⟩
 .exact f_nan1 c i j h λM u v e f=>by
   obtain⟨a,rfl,g⟩:=n f;exact⟨_,a,s e,rfl, .inr g⟩
 .exact f_nan1 c i j h λM u v e f=>by
   obtain⟨a,rfl,g⟩:=n e;obtain⟨b,rfl,q⟩:=n f;exact⟨a,b,rfl,rfl, .inl g⟩
 .cases h
def orE(x y:Option FR):Option FR:=
 match x with
 | some a=>V a
 | none=>y
def qrf{a y}:orE (V a) y=V a:=(rfl)
def qre{y}:orE U y=y:=(rfl)
def qpZ{x x' y}(h:x=x'):orE x y=orE x' y:=wy
end Go.Idl
namespace Go.Idl
variable{P:Program}
def tlfs(P:Program)(f:TypeId->Option (List TK)):Nat->List Field->Option (List TK)
 | _, []=>V []
 | o,x::r=>match f x.type with
   | some l=>if x.name≠ "_" /\x.offset=o/\tsz P x.type=V l.length/\0 < l.length then(tlfs P f (o+l.length) r).map (l++·) else U
   | none=>U
def tleaf(P:Program):Nat->TypeId->Option (List TK)
 | 0,_=>U
 | n+1,t=>match P.underlying t with
   | some .bool=>V [.bool]
   | some (.int k)=>V [.int k]
   | some .string=>V [.string]
   | some (.struct f)=>if P.stoodInHeld t then U else tlfs P (tleaf P n) 0 f.toList
   | some (.array m e)=>match tleaf P n e with
     | some l=>if tsz P e=V l.length/\0 < l.length then V (KQ m l).flatten else U
     | none=>U
   | _=>U
def sleq:TK->Value->Value->Option Bool
 | .bool, .bool a, .bool b=>V (a==b)
 | .int k, .int c a, .int d b=>if c=k/\d=k then V (a==b) else U
 | .string, .string a, .string b=>V (a.toList==b.toList)
 | _,_,_=>U
def leq:List TK->List Value->List Value->Option Bool
 | [], [], []=>V Y
 | k::c,x::d,y::e=>match sleq k x y,leq c d e with
   | some a,V b=>V (a && b)
   | _,_=>U
 | _,_,_=>U
def vof(P:Program)(t:TypeId)(cs:List Value):Value:=match tag P t with
 | some Y=> .agg ⟨cs⟩
 | _=>cs.headD undef
def qgZ: ∀ {l xs ys b},leq l xs ys=V b->xs.length=l.length/\ys.length=l.length
 | [],xs,ys,b,h=>by
   cases xs<;>cases ys<;>first | omega | cases h
 | k::d,xs,ys,b,h=>by
   cases xs with
   | nil=>cases h
   | cons x xs=>cases ys with
     | nil=>cases h
     | cons y ys=>
       simp[leq] at h;split at h
       .rename_i f a;obtain⟨e,c⟩:=qgZ a
        grind
       grind
def qfy: ∀ {l d xs ys b},leq (l++d) xs ys=V b->
  ∃b1 b2,leq l (xs.take l.length) (ys.take l.length)=V b1/\leq d (xs.drop l.length) (ys.drop l.length)=V b2/\b=(b1 && b2)
 | [],d,xs,ys,b,h=>⟨Y,b,wv,wg,wb⟩
 | k::m,d,xs,ys,b,h=>by
   cases xs with
   | nil=>cases h
   | cons x xs=>cases ys with
     | nil=>cases h
     | cons y ys=>
       simp[leq] at h;split at h
       .rename_i a c e f;obtain⟨b1,b2,g,i,j⟩:=qfy f;simp_all[leq,Bool.and_assoc]
       grind
def qcJ{t d}(a:P.underlying t=V d)(h:(match d with | .struct _ | .array _ _=>Y | _=>Z)=Z):tag P t=V Z:=by grind[tag]
def qdw{t d}(a:P.underlying t=V d)(h:(match d with | .struct _ | .array _ _=>Y | _=>Z)=Y):tag P t=V Y:=by unfold tag;cases d<;>simp_all
def leaf_tag{n t l}(h:tleaf P n t=V l):tag P t=V Y\/(tag P t=V Z/\l.length=1):=by
 cases n with
 | zero=>cases h
 | succ n=>
   unfold tleaf at h;split at h
   .rename_i a;cases h;exact .inr ⟨qcJ a rfl,rfl⟩
   .rename_i a;cases h;exact .inr ⟨qcJ a rfl,rfl⟩
   .rename_i a;cases h;exact .inr ⟨qcJ a rfl,rfl⟩
   .rename_i a;exact .inl (qdw a rfl)
   .rename_i a;exact .inl (qdw a rfl)
   grind
def part_leaf{n t l}(h:tleaf P n t=V l)(c:tsz P t=V l.length)(xs off)(f:off+l.length<=xs.length)(w):
  (part t ⟨xs⟩ off).run P w= .ok (vof P t ((xs.drop off).take l.length)) w:=by
 unfold part vof;rw[Km];rcases leaf_tag h with a | ⟨a,d⟩
 .rw[qcH a,a];simp only[Kp,if_true,Km,qaD c];simp
 .rw[qcH a,a];have b:off < xs.length:=wa
  have e:(⟨xs⟩:Array Value)[off]? =V xs[off]:=wb
  rw[e];rw[d,List.drop_eq_getElem_cons b];rfl
def qjS{x y b}(h:sleq .bool x y=V b): ∃p q,x= .bool p/\y= .bool q/\b=(p==q):=by
 cases x<;>cases y<;>simp[sleq] at h
 grind
def sleq_string{x y b}(h:sleq .string x y=V b): ∃p q,x= .string p/\y= .string q/\b=(p.toList==q.toList):=by
 cases x<;>cases y<;>simp[sleq] at h
 grind
def sleq_int{k x y b}(h:sleq (.int k) x y=V b): ∃p q,x= .int k p/\y= .int k q/\b=(p==q):=by
 cases x<;>cases y<;>simp[sleq] at h
 simp_all
def info_tsz{t n}(h:tsz P t=V n): ∃i,P.info? t=V i/\i.size=n:=by simp_all[tsz]
def qjg{f}{d n}(i: ∀t,f t=tleaf P n t)
  (j: ∀t l,tleaf P n t=V l-> ∀xs ys b w,leq l xs ys=V b->(Kc d t (vof P t xs) (vof P t ys)).run P w= .ok b w): ∀(fs) (off) (l),tlfs P f off fs=V l->
  ∀(xs ys) (b) (w),leq l (xs.drop off) (ys.drop off)=V b->(Kk d ⟨xs⟩ ⟨ys⟩ fs).run P w= .ok b w
 | [],off,l,h,xs,ys,b,w,e=>by
   cases h;cases c:xs.drop off<;>cases m:ys.drop off<;>rw[c,m] at e<;>cases e
   rfl
 | x::r,off,l,h,xs,ys,b,w,e=>by
   unfold tlfs at h;split at h
   .rename_i o c;split at h
    .rename_i p;obtain⟨q,s,k,D⟩:=p;simp[Jq] at h;obtain⟨u,v,rfl⟩:=h;rw[i] at c;obtain⟨y,z,A,g,rfl⟩:=qfy e;obtain⟨B,C⟩:=qgZ e;simp[KU,KO] at B C;rw[Jc] at g;rw[Jc] at g;have a:=qjg i j r _ u v xs ys z w wa;simp[Kk,ne_eq,not_false_eq_true,if_true,Km,s]
     .rw[part_leaf c k xs off wa w,Kp,part_leaf c k ys off wa w,Kp];cases y<;>simp_all
    simp_all
   simp_all
def leq_one{k xs ys b}(h:leq [k] xs ys=V b): ∃x y,xs= [x]/\ys= [y]/\sleq k x y=V b:=by
 obtain⟨d,e⟩:=qgZ h
 match xs,ys,d,e with
 | [x], [y],_,_=>
   grind[leq]
def qlf{d}{e}{l}(c:tsz P e=V l.length)(j:0 < l.length){n}(f:tleaf P n e=V l)
  (i: ∀xs ys b w,leq l xs ys=V b->(Kc d e (vof P e xs) (vof P e ys)).run P w= .ok b w): ∀(m k) (xs ys) (b) (w),
  leq (KQ m l).flatten (xs.drop (k * l.length)) (ys.drop (k * l.length))=V b->(Kl d e l.length ⟨xs⟩ ⟨ys⟩ (List.range' k m)).run P w= .ok b w
 | 0,k,xs,ys,b,w,h=>by
   cases o:xs.drop (k * l.length)<;>cases p:ys.drop (k * l.length)<;>rw[o,p] at h<;>cases h
   rfl
 | m+1,k,xs,ys,b,w,h=>by
   rw[Jb] at h;obtain⟨q,r,s,g,rfl⟩:=qfy h;obtain⟨t,u⟩:=qgZ h;simp[KU] at t u;rw[Jc,Jc,show k * l.length+l.length=(k+1) * l.length by grind] at g;have a:=qlf c j f i m (k+1) xs ys r w g;simp[Jn,Kl];rw[part_leaf f c xs (k * l.length) wa w,Kp,part_leaf f c ys (k * l.length) wa w];cases q<;>simp_all
def eq_leaf(d:Nat): ∀(n:Nat) (t:TypeId) (l:List TK),tleaf P n t=V l-> ∀xs ys b w,leq l xs ys=V b->(Kc (d+n) t (vof P t xs) (vof P t ys)).run P w= .ok b w:=by
 intro n;induction n with
 | zero=>intro t l h;cases h
 | succ n u=>
   intro t l h xs ys b w c;unfold tleaf at h;split at h
   .rename_i a;cases h;obtain⟨x,y,rfl,rfl,f⟩:=leq_one c;obtain⟨p,q,rfl,rfl,rfl⟩:=qjS f;unfold vof;rw[qcJ a rfl];exact run_equalIn_bool' w _ t _ _ a
   .rename_i a;cases h;obtain⟨x,y,rfl,rfl,f⟩:=leq_one c;obtain⟨p,q,rfl,rfl,rfl⟩:=sleq_int f;unfold vof;rw[qcJ a rfl];exact run_equalIn_int w _ t _ _ _ _ a
   .rename_i a;cases h;obtain⟨x,y,rfl,rfl,f⟩:=leq_one c;obtain⟨p,q,rfl,rfl,rfl⟩:=sleq_string f;unfold vof;rw[qcJ a rfl];exact run_equalIn_string w _ t _ _ a
   .rename_i v a;split at h
    .cases h
    .rename_i g;unfold vof;rw[qdw a rfl];have j:P.underlying t=V (.struct (P.fieldsOf t)):=by simp only[Program.fieldsOf,a]
     have k:P.fieldsOf t=v:=by simp only[Program.fieldsOf,a]
     show(Kc (d+n+1) t _ _).run P w=_;rw[run_equalIn_struct w (d+n) t ⟨xs⟩ ⟨ys⟩ j (by simpa using g),k];exact qjg (n:=n) (λ_=>rfl) (λt l h xs ys b w=>u t l h xs ys b w) v.toList 0 l h xs ys b w (by simpa using c)
   .rename_i m e a;split at h
    .rename_i z A;split at h
     .rename_i o;obtain⟨i,B,r⟩:=info_tsz o.1;cases h;unfold vof;rw[qdw a rfl];show(Kc (d+n+1) t _ _).run P w=_;have s:P.cellsOf e=z.length:=by simp_all[Program.cellsOf]
      rw[run_equalIn_array w (d+n) ⟨xs⟩ ⟨ys⟩ a B,s,List.range_eq_range'];exact qlf o.1 o.2 A (λxs ys b w=>u e z A xs ys b w) m 0 xs ys b w (by simpa using c)
     .cases h
    .cases h
   .cases h
end Go.Idl
namespace Go.Idl
variable{P:Program}{o:Oper}{ρ:Operand->Option IV}{G:Nat->Option IBlk}
def qrL(i:Bool)(d:Nat): ∀(n:Nat) (t:TypeId) (l:List TK),tleaf P n t=V l-> ∀(xs:List Value) (w:World),xs.length=l.length->(Instr.checkKey i (d+n) t (vof P t xs)).run P w= .ok () w:=by
 intro n;induction n with
 | zero=>intro t l h;cases h
 | succ n B=>
   intro t l h xs w r;unfold tleaf at h;have s: ∀k,P.underlying t=V k->(match k with | .struct _ | .array _ _=>Y | _=>Z)=Z->(match k with | .interface _=>Y | _=>Z)=Z->(Instr.checkKey i (d+(n+1)) t (vof P t xs)).run P w= .ok () w:=by
    intro k a j C;show(Instr.checkKey i (d+n+1) t _).run P w=_;unfold Instr.checkKey;rw[Km,run_underlying a w,Kp];cases k<;>simp_all
   split at h
   .rename_i a;exact s _ a rfl rfl
   .rename_i a;exact s _ a rfl rfl
   .rename_i a;exact s _ a rfl rfl
   .rename_i H a;split at h
    .cases h
    .unfold vof;rw[qdw a rfl];show(Instr.checkKey i (d+n+1) t _).run P w=_;unfold Instr.checkKey;rw[Km,run_underlying a w,Kp];simp only;rw[<-Array.forIn_toList];obtain⟨b,c⟩: ∃b:Nat,b=0:=⟨0,rfl⟩;have p:xs.length=b+l.length:=wa
     rw[<-c] at h;clear a c r;generalize H.toList=L at h;induction L generalizing b l with
     | nil=>simp
     | cons x L u=>
       unfold tlfs at h;split at h
       .rename_i v D;split at h
        .rename_i q;obtain⟨j,C,I,M⟩:=q;simp only[Jq] at h;obtain⟨J,K,rfl⟩:=h;rw[KO] at p;have y:=B x.type v D ((xs.drop b).take v.length) w vn;simp only[Jo,Km,j,ne_eq,not_false_eq_true,if_true,C,part_leaf D I xs b wa w,Kp,y,Kn];have:=u J (b+v.length) wa K;rw[Km] at this;exact this
        .cases h
       .cases h
   .rename_i m e a;split at h
    .rename_i f E;split at h
     .rename_i q;cases h;unfold vof;rw[qdw a rfl];show(Instr.checkKey i (d+n+1) t _).run P w=_;unfold Instr.checkKey;rw[Km,run_underlying a w,Kp];simp only[Std.Legacy.Range.forIn_eq_forIn_range',Std.Legacy.Range.size,Nat.sub_zero,Nat.add_one_sub_one,Nat.div_one];have g:xs.length=m * f.length:=by rw[r];simp
      obtain⟨k,z⟩: ∃k:Nat,k=0:=⟨0,rfl⟩;have p:(k+m) * f.length<=xs.length:=by rw[g,z];simp
      rw[<-z];clear a g r z;induction m generalizing k with
      | zero=>simp
      | succ F A=>
        have j:k * f.length+f.length<=xs.length:=by
         rw[<-Nat.succ_mul];exact KH (Ks _ wa) p
        rw[Jn];simp only[Jo,Km,qaD q.1,Kp,part_leaf E q.1 xs (k * f.length) j w,B e f E ((xs.drop (k * f.length)).take f.length) w vn,Kn];have:=A (k+1) (by rw[show k+1+F=k+(F+1) by omega];exact p);rw[Km] at this;exact this
     .cases h
    .cases h
   .cases h
def kok(tb:Bool):Value->Bool
 | .agg _=>tb
 | _=>!tb
def qik(tb:Bool)(l:List TK)(k:List Value):Nat->List (Value × IV)->Option (Option (Nat × IV))
 | _, []=>V U
 | i,e::r=>if kok tb e.1 then match leq l k e.1.cells.toList with
   | some Y=>V (V (i,e.2))
   | some Z=>qik tb l k (i+1) r
   | none=>U
   else U
def qsc{t tb}(a:tag P t=V tb){v}(h:kok tb v=Y):v=vof P t v.cells.toList:=by
 unfold vof;rw[a];cases tb<;>cases v<;>first | rfl | cases h
def ikey(P:Program)(t:TypeId):IV->Option Value
 | .p (.sc v)=>match tag P t,v with
   | some Z, .agg _=>U
   | some Z,v=>V v
   | _,_=>U
 | .agg c=>match tag P t with
   | some Y=>(scs c).map λa=> .agg ⟨a⟩
   | _=>U
 | _=>U
def qqP{t z k}(h:ikey P t z=V k):k=vof P t k.cells.toList:=by
 unfold ikey at h;split at h
 .split at h
  .grind
  .rename_i a b;unfold vof;rw[a];cases k<;>first | rfl | grind
  grind
 .split at h
  .rename_i a;simp at h;obtain⟨v,_,rfl⟩:=h;unfold vof;rw[a];rfl
  grind
 grind
def qqO{M t z k u}(h:ikey P t z=V k)(b:VRel M z u):u=k:=by
 unfold ikey at h;split at h
 .have:=b.sc_inv;grind
 .split at h
  .simp at h;obtain⟨v,a,rfl⟩:=h;obtain⟨d,rfl,l,_,c⟩:=b.agg_inv;rw[qdv a l c]
  grind
 grind
def qrp{t b}(a:P.underlying t=V b){k kk c}(h:Instr.sameNow b k kk=V c)(w):(Kb t k kk).run P w= .ok c w:=by
 unfold Instr.sameNow at h;split at h
 .split at h
  .rename_i e;subst e;cases h;exact run_equalIn_int w 9999 t _ _ _ _ a
  grind
 .cases h;rw[beq_toListBytes];exact run_equalIn_string w 9999 t _ _ a
 .cases h;exact run_equalIn_bool' w 9999 t _ _ a
 grind
def asking{M:Mem}{t:TypeId}{A:TypeDesc}(E:P.underlying t=V A){tb:Bool}(n:tag P t=V tb){l:List TK}(F:tleaf P 20 t=V l){k:Value}(H:k=vof P t k.cells.toList): ∀(es:List (Value × IV)) (es':List MapEntry) (i:Nat) (r:Option (Nat × IV)),es'.length=es.length->
  (∀(j:Nat) (kk:Value) (x:IV),es[j]? =V (kk,x)-> ∃e,es'[j]? =V e/\(e.key=kk/\e.born=i+j)/\VRel M x e.val)->qik tb l k.cells.toList i es=V r->
  ∃m,(Instr.findAsking t k es' i).run P M.w= .ok m M.w/\(∀q,Instr.findNow A k es' i=V q->q=m)/\match r,m with | none,U=>True | some (j,x),V (I,v)=>j=I/\VRel M x v/\i<=j/\(∃e,es'[j - i]? =V e/\v=e.val/\leq l k.cells.toList e.key.cells.toList=V Y/\kok tb e.key=Y)/\j < i+es.length | _,_=>False
 | [],es',i,r,p,_,h=>by
   cases h;have:es'= []:=KY (by simpa using p);subst this;exact⟨U,by simp[Instr.findAsking],λq a=>by simp[Instr.findNow] at a;exact a.symm,trivial⟩
 | (kk,x)::es,es',i,r,p,J,h=>by
   match es',p with
   | z::es',p=>
     obtain⟨e,s,⟨d,B⟩,L⟩:=J 0 kk x rfl;simp only[K5,Option.some.injEq] at s;subst s;simp only[qik] at h;split at h
     .rename_i u;have C:=qsc n u;have g: ∀b,leq l k.cells.toList kk.cells.toList=V b->(Kb t k z.key).run P M.w= .ok b M.w:=by
       intro b f;have:=eq_leaf (P:=P) 9980 20 t l F _ _ b M.w f;rw[<-H,<-C] at this;rw[d];exact this
      have w: ∀b c,leq l k.cells.toList kk.cells.toList=V b->Instr.sameNow A k z.key=V c->c=b:=by
       intro b c f y;have N:=g b f;have K:=qrp E y M.w;rw[N] at K;cases K;rfl
      split at h
      .rename_i f;cases h;refine⟨V (i,z.val),by simp[Instr.findAsking,g _ f],λq a=>?_,rfl,L,Kq _,⟨z,wb,rfl,by rw[d];exact f,by rw[d];exact u⟩,wb⟩;simp only[Instr.findNow] at a;split at a
       .cases a;rfl
       .rename_i y;have:=w _ _ f y;cases this
       .cases a
      .rename_i f;obtain⟨m,O,Q,D⟩:=asking E n F H es es' (i+1) r (by simpa using p) (λj kk x R=>by
        obtain⟨e,S,⟨T,X⟩,W⟩:=J (j+1) kk x (by simpa using R);exact⟨e,by simpa using S,⟨T,wa⟩,W⟩) h
       refine⟨m,by simp[Instr.findAsking,g _ f,O],λq a=>?_,?_⟩<;>grind[Instr.findAsking,Instr.findNow,List.length_cons]
      .cases h
     .cases h
def run_find{M t d}(f:P.underlying t=V d){tb}(b:tag P t=V tb){l}(m:tleaf P 20 t=V l){k}(n:k=vof P t k.cells.toList){es:List (Value × IV)}{es':List MapEntry}{r}(p:es'.length=es.length)
  (s: ∀(j:Nat) (kk x),es[j]? =V (kk,x)-> ∃e,es'[j]? =V e/\(e.key=kk/\e.born=j)/\VRel M x e.val) (h:qik tb l k.cells.toList 0 es=V r):
  ∃a,(Instr.findKey t k es').run P M.w= .ok a M.w/\match r,a with | none,U=>True | some (j,x),V (i,v)=>j=i/\VRel M x v/\(∃e,es'[j]? =V e/\v=e.val/\leq l k.cells.toList e.key.cells.toList=V Y/\kok tb e.key=Y)/\j < es.length | _,_=>False:=by
 obtain⟨a,u,w,g⟩:=asking (M:=M) f b m n es es' 0 r p (λj kk x y=>by grind) h;refine⟨a,?_,?_⟩
 .unfold Instr.findKey;rw[Km,run_underlying f M.w,Kp];cases c:Instr.findNow d k es' 0 with
  | none=>omega
  | some q=>have:=w q c;subst this;rfl
 grind
def qoy{M}(h:MRel M)(b)(v: ¬M.H.A b):
  qaf M ⟨M.w.alloc (.map #[] 0),M.H.put b (.mp []),putβ M.β b (V (M.w.heap.size,0,0))⟩/\
  MRel ⟨M.w.alloc (.map #[] 0),M.H.put b (.mp []),putβ M.β b (V (M.w.heap.size,0,0))⟩:=by
 have s:qaf M ⟨M.w.alloc (.map #[] 0),M.H.put b (.mp []),putβ M.β b (V (M.w.heap.size,0,0))⟩:=by
  refine⟨rfl,rfl,rfl,wb,λc p u=>⟨heap_alloc_old M.w _ p,?_⟩,λ_ h=> .inl h,λj f q a=>?_,rfl,λ_ p=>heap_alloc_old M.w _ (h.olt _ p)⟩
  .rintro(r | ⟨j,g,o,n,a,d⟩)
   .exact u (.inl r)
   by_cases e:j=b
   .simp[putβ,e] at d;omega
   .simp[AH.put,putβ,e] at a d;exact u (.inr ⟨j,g,o,n,a,d⟩)
  .have e:j≠b:=λe=>v (e ▸q)
   simp_all[AH.put,putβ]
 refine⟨s,h.change s b (.inr rfl) ?_ ?_ ?_ ?_ ?_ ?_⟩
 .intro j e;simp[AH.put,e]
 .intro j e;simp[putβ,e]
 .intro j g c o n e a d;exact heap_alloc_old M.w _ (h.lt (.inr ⟨j,g,o,n,a,d⟩))
 .intro f a;simp[AH.put,if_true,Option.some.injEq] at a;subst a;exact⟨M.w.heap.size,0,0,wr,#[],0,heap_alloc_new M.w _,⟨rfl,rfl⟩,λi k x w=>by simp_all⟩
 .intro f c o n a d j g y t e l m;simp[putβ,if_true,Option.some.injEq,Prod.mk.injEq] at d;have:=h.lt (.inr ⟨j,g,y,t,l,m⟩);omega
 .intro f c o n _ d r;simp[putβ,if_true,Option.some.injEq,Prod.mk.injEq] at d;have:=h.olt c r;omega
def World.putM(w:World)(r:Nat)(o:Obj):World:= {w with heap:=w.heap.setIfInBounds r o}
def putM_other(w r c o)(h:c≠r):(World.putM w r o).heap[c]? =w.heap[c]? :=by grind[World.putM]
def qfz{M:Mem}(h:MRel M){b:Nat}{es es2:List (Value × IV)}{c o n:Nat}{cs cs2:Array MapEntry}{t:Nat}
  (v:M.H.G b=V (.mp es)) (f:M.β b=V (c,o,n)) (C:M.w.heap[c]? =V (.map cs t))
  (D:cs2.size=es2.length) (E: ∀(i:Nat) (k:Value) (x:IV),es2[i]? =V (k,x)-> ∃e,cs2[i]? =V e/\(e.key=k/\e.born=i)/\VRel M x e.val):
  qaf M ⟨World.putM M.w c (.map cs2 es2.length),M.H.put b (.mp es2),M.β⟩/\MRel ⟨World.putM M.w c (.map cs2 es2.length),M.H.put b (.mp es2),M.β⟩:=by
 have r:M.own c:= .inr ⟨b,_,o,n,v,f⟩;have s:qaf M ⟨World.putM M.w c (.map cs2 es2.length),M.H.put b (.mp es2),M.β⟩:=by
  refine⟨rfl,rfl,rfl,by simp[World.putM],λu d y=>⟨putM_other M.w c u _ (λe=>y (e ▸r)),?_⟩,λ_ h=> .inl h,λq j F a=>?_,rfl,λu d=>putM_other M.w c u _ (λe=>h.odis b _ c o n v f (e ▸d))⟩
  .rintro(z | ⟨q,l,m,p,a,g⟩)
   .exact y (.inl z)
   by_cases e:q=b
   .simp_all
   .simp only[AH.put,e,if_false] at a;exact y (.inr ⟨q,l,m,p,a,g⟩)
  .by_cases e:q=b
   .subst e;simp only[AH.put,if_true,Option.some.injEq] at a;subst a;exact⟨_,v,rfl,rfl,Kq _,λ_=>⟨rfl,rfl⟩⟩
   simp_all[AH.put,if_false]
 refine⟨s,h.change s b (.inr rfl) ?_ ?_ ?_ ?_ ?_ ?_⟩
 .intro q e;simp[AH.put,e]
 .intro q e;rfl
 .intro q l u m p e a d;exact putM_other M.w c u _ (λA=>e (h.inj q b l _ c m p o n a v (A ▸d) f))
 .intro j a;simp only[AH.put,if_true,Option.some.injEq] at a;subst a;refine⟨c,o,n,f,cs2,es2.length,?_,⟨D,rfl⟩,λi k x H=>?_⟩
  .grind[World.putM]
  .obtain⟨e,I,A,J⟩:=E i k x H;exact⟨e,I,A,J.step s⟩
 .intro j u m p a d q l K L e w g;simp only at d;rw[f] at d;cases d;exact e (h.inj q b l _ c K L o n w v g f)
 .intro j u m p _ d z;simp only at d;rw[f] at d;cases d;exact h.odis b _ c o n v f z
def tmp(P:Program)(t:TypeId):Option (TypeId × TypeId):=match P.underlying t with | some (.map k e)=>V (k,e) | _=>U
def qsD{t k e}(h:tmp P t=V (k,e)):P.underlying t=V (.map k e):=by grind[tmp]
def tzv(P:Program)(t:TypeId):Option Value:=(P.info? t).bind (·.zero)
def qha{t z}(h:tzv P t=V z)(w):(zeroValue t).run P w= .ok z w:=by
 unfold tzv at h;cases a:P.info? t with
 | none=>grind
 | some i=>
   simp_all[zeroValue,typeInfo]
def cstv:Value->Option IV
 | .agg c=>if c.all (·.oneCell') then V (.agg (c.toList.map λv=> .p (.sc v))) else U
 | .tuple _=>U
 | v=>V (.p (.sc v))
def cstv_rel(M){v x}(h:cstv v=V x):VRel M x v:=by
 unfold cstv at h;split at h
 .rename_i c;split at h
  .cases h;have:=qcL M (zs:=c.toList) wg;exact .agg _ _ this.len this.one this.rel
  grind
 .grind
 .cases h;exact .sc M v
def tkey(P:Program)(k:TypeId):Option (Bool × List TK):=match tag P k,tleaf P 20 k with
 | some t,V l=>V (t,l)
 | _,_=>U
structure KeyT(P:Program)(k:TypeId)(tb:Bool)(l:List TK):Prop where
 htag:tag P k=V tb
 leaf:tleaf P 20 k=V l
 und: ∃kd,P.underlying k=V kd
def qsC{k tb l}(h:tkey P k=V (tb,l)):KeyT P k tb l:=by
 unfold tkey at h;split at h
 .rename_i a b;cases h;refine⟨a,b,?_⟩;unfold tag at a;cases c:P.underlying k with
  | none=>grind
  | some d=>simp
 grind
def qfB(P:Program)(G:Nat->Option IBlk)(t:TypeId)(x i:IV):Option (Nat × List (Value × IV) × Value × Option (Nat × IV) × TypeId):=
 match tmp P t,x with
 | some (k,e), .mp b=>match G b,ikey P k i,tkey P k with
   | some (.mp c),V a,V (d,l)=>if a.cells.size=l.length then(qik d l a.cells.toList 0 c).map λr=>(b,c,a,r,e) else U
   | _,_,_=>U
 | _,_=>U
def qqN{t tb}(b:tag P t=V tb){z k}(h:ikey P t z=V k):kok tb k=Y:=by
 unfold ikey at h;split at h
 .rw[b] at h;split at h
  .grind
  .cases h;simp at *;subst_vars;cases k<;>first | rfl | grind
  grind
 .rw[b] at h;split at h
  .rename_i e;cases e;simp at h;obtain⟨v,_,rfl⟩:=h;rfl
  grind
 grind
theorem qqf{q a b}(h:sleq q a b=V Y)(n):Instr.sameBits n b a=Y:=by
 cases q with
 | bool=>obtain⟨x,y,rfl,rfl,e⟩:=qjS h;cases n<;>simp_all[Instr.sameBits]
 | int k=>obtain⟨x,y,rfl,rfl,e⟩:=sleq_int h;cases n<;>simp_all[Instr.sameBits]
 | string=>
   obtain⟨x,y,rfl,rfl,e⟩:=sleq_string h
   grind[beq_toListBytes,Instr.sameBits]
 | float k=>simp[sleq] at h
 | slice e=>simp[sleq] at h
 | map k e=>simp[sleq] at h
 | iface=>simp[sleq] at h
 | other=>simp[sleq] at h
def qlD: ∀ {l c bs},leq l c bs=V Y->c.length=bs.length/\ ∀(n),(bs.zip c).all (λp=>Instr.sameBits n p.1 p.2)=Y
 | [],c,bs,h=>by
   cases c<;>cases bs<;>first | exact⟨rfl,λ_=>rfl⟩ | cases h
 | q::l,c,bs,h=>by
   cases c with
   | nil=>cases h
   | cons a c=>cases bs with
     | nil=>cases h
     | cons b bs=>
       simp[leq] at h;split at h
       .rename_i x y d e;simp[JS] at h;obtain⟨rfl,rfl⟩:=h;obtain⟨f,g⟩:=qlD e;exact⟨wg,λn=>by simp[qqf d n,g n]⟩
       grind
def qqc{tb l k kk}(c:kok tb k=Y)(d:kok tb kk=Y)(h:leq l k.cells.toList kk.cells.toList=V Y):Instr.sameBits 10000 kk k=Y:=by
 have b:=qlD h;cases tb with
 | true=>
   obtain⟨g,rfl⟩: ∃a,k= .agg a:=by cases k<;>first | exact⟨_,rfl⟩ | exact absurd c (by simp[kok])
   obtain⟨i,rfl⟩: ∃a,kk= .agg a:=by cases kk<;>first | grind | exact absurd d (by simp[kok])
   simp_all[Value.cells,Instr.sameBits,beq_iff_eq]
 | false=>
   have e:k.cells.toList= [k]:=by cases k<;>first | rfl | cases c
   have f:kk.cells.toList= [kk]:=by cases kk<;>first | rfl | cases d
   simp_all
structure MLook(P:Program)(M:Mem)(t:TypeId)(u v:Value)(b:Nat)(es:List (Value × IV))(kv:Value)(r:Option (Nat × IV))(e k:TypeId)(c o n:Nat)(cs:Array MapEntry)(r':Option (Nat × Value)):Prop where
 und:P.underlying t=V (.map k e)
 hu:u= .map (V c)
 hv:v=kv
 hβ:M.β b=V (c,o,n)
 heap:M.w.heap[c]? =V (.map cs es.length)
 size:cs.size=es.length
 ck: ∀em w,(Instr.checkKey em 10000 k kv).run P w= .ok () w
 find:(Instr.findKey k kv cs.toList).run P M.w= .ok r' M.w
 rel: ∀(i:Nat) (kk:Value) (x:IV),es[i]? =V (kk,x)-> ∃en,cs[i]? =V en/\(en.key=kk/\en.born=i)/\VRel M x en.val
 same:match r,r' with | none,U=>True | some (j,x),V (j',v)=>j=j'/\VRel M x v/\(∃en,cs[j]? =V en/\v=en.val/\Instr.sameBits 10000 en.key kv=Y)/\j < es.length | _,_=>False
def qc5{M}(N:MRel M){t x C b es D r e}(h:qfB P G t x C=V (b,es,D,r,e))(E:M.H.G b=V (.mp es)){u v}(O:VRel M x u)(F:VRel M C v):
  x= .mp b/\G b=V (.mp es)/\ ∃k c o n cs a,MLook P M t u v b es D r e k c o n cs a:=by
 unfold qfB at h;split at h
 .rename_i k e0 b0 Q;split at h
  .rename_i g i tb l R m s;split at h
   .simp[Jq,Prod.mk.injEq] at h;obtain⟨H,S,rfl,rfl,rfl,rfl,rfl⟩:=h;have K:=qsC s;obtain⟨kd,z⟩:=K.und;have d:=qqP m;obtain⟨c,o,n,f,cs,A,T,⟨I,W⟩,J⟩:=N.blk _ _ E;subst W;refine⟨rfl,R,k,c,o,n,cs,?_⟩;obtain⟨a,X,B⟩:=run_find (M:=M) z K.htag K.leaf d (es:=g) (es':=cs.toList) (r:=H) wa (λj kk x hj=>by grind) S;refine⟨a,qsD Q,?_,qqO m F,f,T,I,λy w=>?_,X,J,?_⟩
    .cases O with
     | mp b v hA F h=>
       obtain⟨_,c',o',n',L,h2⟩:=h _ E;rw[f] at L;cases L;exact h2
    .have:=qrL (P:=P) y 9980 20 k l K.leaf i.cells.toList w wa
     grind
    .cases H with
     | none=>cases a<;>omega
     | some p=>cases a with
       | none=>omega
       | some q=>
         obtain⟨g1,g2,⟨en,g3,g4,g5,g6⟩,g7⟩:=B;exact⟨g1,g2,⟨en,wg,g4,qqc (qqN K.htag m) g6 g5⟩,g7⟩
   simp_all
  simp_all
 simp_all
def qgh(nx:Nat)(r:Option IV):Option FR:=match r with
 | none=>V {x:= .mp nx,F:= [nx],W:= [(nx, .mp [])]}
 | some _=>U
def qeV(P:Program)(G:Nat->Option IBlk)(t:TypeId)(x i:IV)(c:Bool):Option FR:=match qfB P G t x i with
 | some (b,a,_,V (_,y),_)=>V {x:=if c then .tup [y,scb Y] else y,R:= [(b, .mp a)]}
 | some (b,a,_,U,e)=>match(tzv P e).bind cstv with
   | some z=>V {x:=if c then .tup [z,scb Z] else z,R:= [(b, .mp a)]}
   | none=>U
 | none=>U
def qd4(P:Program)(G:Nat->Option IBlk)(t:TypeId)(m k x:IV):Option FR:=match qfB P G t m k with
 | some (b,e,a,V (i,_),_)=>V {x:= .dead,R:= [(b, .mp e)],W:= [(b, .mp (e.set i (a,x)))]}
 | some (b,e,a,U,_)=>V {x:= .dead,R:= [(b, .mp e)],W:= [(b, .mp (e++ [(a,x)]))]}
 | none=>U
def qeW(P:Program)(G:Nat->Option IBlk)(t:TypeId)(m k:IV):Option FR:=match qfB P G t m k with
 | some (b,a,c,V (i,y),_)=>V {x:= .tup [y,sci .i64 i],R:= [(b, .mp a)],W:= [(b, .mp (a.set i (c,y)))]}
 | some (b,a,c,U,e)=>match(tzv P e).bind cstv with
   | some z=>V {x:= .tup [z,sci .i64 a.length],R:= [(b, .mp a)],W:= [(b, .mp (a++ [(c,z)]))]}
   | none=>U
 | none=>U
def qgb(G:Nat->Option IBlk)(m s x:IV):Option FR:=match m,s with
 | .mp b, .p (.sc (.int .i64 i))=>match G b with
   | some (.mp e)=>if 0<=i then match e[i.toNat]? with
     | some (k,_)=>V {x:= .dead,R:= [(b, .mp e)],W:= [(b, .mp (e.set i.toNat (k,x)))]}
     | none=>U
     else U
   | _=>U
 | _,_=>U
def qrX{t nx r fr}(c:o.op= .makeMap t r)(d:r=U)(h:qgh nx U=V fr):fr.ok P o ρ:=by
 subst d;cases h;refine .does λM a e _ f _=>?_;obtain⟨s,g⟩:=qoy e nx (f nx wb);refine⟨.map (V M.w.heap.size),_,?_,s,g,qcK ..,?_⟩
 .simp[execOp,c,Instr.makeMap]
 .refine .mp nx _ (.inr rfl) ⟨1,_,rfl⟩ λi b=>?_;simp[AH.put] at b;subst b;exact⟨vt,M.w.heap.size,0,0,wr,rfl⟩
def qc0{M:Mem}{c n cs}(h:M.w.heap[c]? =V (.map cs n)):(getObj c).run P M.w= .ok (.map cs n) M.w:=by simp[getObj,Ko,h]
def qqD{t:TypeId}{x r:Operand}{g:Bool}{I J:IV}{fr:FR}(l:o.op= .lookup t x r g)(d:ρ x=V I)(K:ρ r=V J)(h:qeV P G t I J g=V fr):fr.ok P o ρ:=by
 unfold qeV at h;split at h
 .rename_i b w Q j y e A;simp only[Option.some.injEq] at h;subst h;refine .read λM a B C m=>?_;have D:M.H.G b=V (.mp w):=C (b,_) wb;obtain⟨_,_,k,c,R,n,S,E,L⟩:=qc5 B A D (m x (by simp[l,Ka]) _ d) (m r (by simp[l,Ka]) _ K);have s:=L.same;cases E with
  | none=>exact s.elim
  | some q=>
    obtain⟨T,v⟩:=q;obtain⟨_,N,_,_⟩:=s;refine⟨if g then .tuple #[v, .bool Y] else v,?_,?_⟩
    .simp only[execOp,l,Instr.lookup,Km,run_underlying L.und,L.hu,L.hv,qc0 L.heap,L.ck,L.find,Kp,Kn]
    .cases g
     .exact N
     .refine .tup _ [v, .bool Y] rfl λi x u d f=>?_
      match i,d,f with
      | 0,d,f=>simp at d f;subst d f;exact N
      | 1,d,f=>simp at d f;subst d f;exact .sc M _
 .rename_i b w Q e A;split at h
  .rename_i z O;simp only[Jr] at O;obtain⟨F,H,p⟩:=O;simp only[Option.some.injEq] at h;subst h;refine .read λM a B C m=>?_;have D:M.H.G b=V (.mp w):=C (b,_) wb;obtain⟨_,_,k,c,R,n,S,E,L⟩:=qc5 B A D (m x (by simp[l,Ka]) _ d) (m r (by simp[l,Ka]) _ K);have s:=L.same;cases E with
   | some q=>exact s.elim
   | none=>
     refine⟨if g then .tuple #[F, .bool Z] else F,?_,?_⟩
     .simp only[execOp,l,Instr.lookup,Km,run_underlying L.und,L.hu,L.hv,qc0 L.heap,L.ck,L.find,qha H,Kp,Kn]
     .cases g
      .exact cstv_rel M p
      .refine .tup _ [F, .bool Z] rfl λi x u d f=>?_
       match i,d,f with
       | 0,d,f=>simp at d f;subst d f;exact cstv_rel M p
       | 1,d,f=>simp at d f;subst d f;exact .sc M _
  .cases h
 .cases h
def run_putM{w c n cs}(h:w.heap[c]? =V (.map cs n))(o):(setObj c o).run P w= .ok () (World.putM w c o):=by simp[setObj,Ko,h,World.putM]
def qpk{M}(q:MRel M){t u v b es s r e k c o n cs w}(L:MLook P M t u v b es s r e k c o n cs w)(y:M.H.G b=V (.mp es))
  {i} (m:i < es.length) {kk x val} (z:VRel M x val) {f} (A: ∀a,cs[i]? =V a->(f a).key=kk/\(f a).born=a.born/\(f a).val=val):
  qaf M ⟨World.putM M.w c (.map (cs.modify i f) es.length),M.H.put b (.mp (es.set i (kk,x))),M.β⟩/\MRel ⟨World.putM M.w c (.map (cs.modify i f) es.length),M.H.put b (.mp (es.set i (kk,x))),M.β⟩:=by
 have:=qfz q (es2:=es.set i (kk,x)) (cs2:=cs.modify i f) y L.hβ L.heap (by simp[L.size]) λj B C h=>?_
 .grind
 .rw[K8] at h;split at h
  .obtain⟨a,d,⟨p,g⟩,H⟩:=L.rel i es[i].1 es[i].2 wg
   grind
  .obtain⟨a,d,p,g⟩:=L.rel j B C h
   grind
def qpf{M}(f:MRel M){t u v b es a r e k c o n cs g}(L:MLook P M t u v b es a r e k c o n cs g)(i:M.H.G b=V (.mp es))
  {x val} (l:VRel M x val):
  qaf M ⟨World.putM M.w c (.map (cs.push {key:=a,val,born:=es.length}) (es.length+1)),M.H.put b (.mp (es++ [(a,x)])),M.β⟩/\MRel ⟨World.putM M.w c (.map (cs.push {key:=a,val,born:=es.length}) (es.length+1)),M.H.put b (.mp (es++ [(a,x)])),M.β⟩:=by
 have:=qfz f (es2:=es++ [(a,x)]) (cs2:=cs.push {key:=a,val,born:=es.length}) i L.hβ L.heap (by simp[L.size]) λj m p h=>?_
 .grind
 .rw[KN] at h;split at h
  .obtain⟨q,s,w,y⟩:=L.rel j m p h
   grind
  .have e:j=es.length:=wg
   subst e;simp at h;obtain⟨rfl,rfl⟩:=h;exact⟨_,by rw[Array.getElem?_push,if_pos (by rw[L.size])],⟨rfl,rfl⟩,l⟩
def qlj{t:TypeId}{m k x:Operand}{I J K:IV}{fr:FR}(g:o.op= .mapUpdate t m k x\/o.op= .insert t m k x)(N:ρ m=V I)(O:ρ k=V J)(Q:ρ x=V K)(h:qd4 P G t I J K=V fr):fr.ok P o ρ:=by
 have d:o.op.operands=(Op.mapUpdate t m k x).operands:=by rcases g with g | g<;>rw[g]<;>rfl
 have r: ∀(s:Act),execOp s.eval o=(do Instr.mapUpdate t (s.eval m) (s.eval k) (s.eval x);pure .skip):=by
  intro s;rcases g with g | g<;>simp only[execOp,g]
 unfold qd4 at h;split at h
 .rename_i b A B j y e C;simp only[Option.some.injEq] at h;subst h;refine .skips λM a u D _ l=>?_;have w:M.H.G b=V (.mp A):=D (b,_) wb;obtain⟨_,_,R,c,S,n,T,E,L⟩:=qc5 u C w (l m wJ _ N) (l k wJ _ O);have z:=L.same;have p:=l x wJ _ Q;cases E with
  | none=>exact z.elim
  | some q=>
    obtain⟨j',v⟩:=q;obtain⟨rfl,h2,⟨W,X,h4,h5⟩,h6⟩:=z;obtain⟨F,H⟩:=qpk u L w (i:=j) h6 (kk:=B) p (f:=λe=> {e with key:=B,val:=a.eval x}) (λW _=>⟨rfl,rfl,rfl⟩);refine⟨_,?_,F,H,qcK ..⟩;simp only[r,Instr.mapUpdate,Km,run_underlying L.und,L.hu,L.hv,qc0 L.heap,L.ck,L.find,Kp,Instr.keyThatStays,X,Jp,Jt,h5,if_true,Kn,run_putM L.heap]
 .rename_i b A B e C;simp only[Option.some.injEq] at h;subst h;refine .skips λM a u D _ l=>?_;have w:M.H.G b=V (.mp A):=D (b,_) wb;obtain⟨_,_,R,c,S,n,T,E,L⟩:=qc5 u C w (l m wJ _ N) (l k wJ _ O);have z:=L.same;have p:=l x wJ _ Q;cases E with
  | some q=>exact z.elim
  | none=>
    obtain⟨F,H⟩:=qpf u L w p;refine⟨_,?_,F,H,qcK ..⟩;simp only[r,Instr.mapUpdate,Km,run_underlying L.und,L.hu,L.hv,qc0 L.heap,L.ck,L.find,Kp,Kn,run_putM L.heap]
 .cases h
def f_mapent{t:TypeId}{m k:Operand}{Q R:IV}{fr:FR}(p:o.op= .mapEntry t m k)(S:ρ m=V Q)(T:ρ k=V R)(h:qeW P G t Q R=V fr):fr.ok P o ρ:=by
 unfold qeW at h;split at h
 .rename_i b l E j y e F;simp only[Option.some.injEq] at h;subst h;refine .does λM a r H _ s=>?_;have w:M.H.G b=V (.mp l):=H (b,_) wb;obtain⟨_,_,kt,c,o',n,cs,I,L⟩:=qc5 r F w (s m vo _ S) (s k vo _ T);have C:=L.same;cases I with
  | none=>exact C.elim
  | some q=>
    obtain⟨j',v⟩:=q;obtain⟨rfl,W,⟨en,J,h4,h5⟩,X⟩:=C;obtain⟨D,K⟩:=qpk r L w (i:=j) X (kk:=E) W (f:=λe=> {e with key:=E}) (λN A=>⟨rfl,rfl,by rw[J] at A;cases A;exact h4.symm⟩);refine⟨.tuple #[v, .int .i64 j],_,?_,D,K,qcK ..,?_⟩
    .have hb:en.born=j:=by
      obtain⟨N,e1,⟨_,e3⟩,_⟩:=L.rel j l[j].1 l[j].2 (by rw[KS X]);rw[J] at e1;cases e1;exact e3
     simp only[execOp,p,Instr.mapEntry,Km,run_underlying L.und,L.hu,L.hv,qc0 L.heap,L.ck,L.find,Kp,Instr.keyThatStays,J,Jp,Jt,h5,if_true,Kn,run_putM L.heap,hb,goInt]
    .refine .tup _ [v, .int .i64 j] rfl λi x u d g=>?_
     match i,d,g with
     | 0,d,g=>simp at d g;subst d g;exact W.step D
     | 1,d,g=>simp at d g;subst d g;exact .sc _ _
 .rename_i b l E e F;split at h
  .rename_i z hz;simp only[Jr] at hz;obtain⟨zv,O,B⟩:=hz;simp only[Option.some.injEq] at h;subst h;refine .does λM a r H _ s=>?_;have w:M.H.G b=V (.mp l):=H (b,_) wb;obtain⟨_,_,kt,c,o',n,cs,I,L⟩:=qc5 r F w (s m vo _ S) (s k vo _ T);have C:=L.same;cases I with
   | some q=>exact C.elim
   | none=>
     obtain⟨D,K⟩:=qpf r L w (cstv_rel M B);refine⟨.tuple #[zv, .int .i64 l.length],_,?_,D,K,qcK ..,?_⟩
     .simp only[execOp,p,Instr.mapEntry,Km,run_underlying L.und,L.hu,L.hv,qc0 L.heap,L.ck,L.find,qha O,Kp,Kn,run_putM L.heap,goInt]
     .refine .tup _ [zv, .int .i64 l.length] rfl λi x u d g=>?_
      match i,d,g with
      | 0,d,g=>simp at d g;subst d g;exact cstv_rel _ B
      | 1,d,g=>simp at d g;subst d g;exact .sc _ _
  .cases h
 .cases h
def f_entst{t:TypeId}{m s x:Operand}{T zs D:IV}{fr:FR}(w:o.op= .entryStore t m s x)(hm:ρ m=V T)(hs:ρ s=V zs)(hx:ρ x=V D)(h:qgb G T zs D=V fr):fr.ok P o ρ:=by
 unfold qgb at h;split at h
 .rename_i b i;split at h
  .rename_i k a0;split at h
   .rename_i h0;split at h
    .rename_i E y z;simp only[Option.some.injEq] at h;subst h;obtain⟨i,rfl⟩:=JU h0;simp only[JT] at z;refine .skips λM a W hR _ F=>?_;have H:M.H.G b=V (.mp k):=hR (b,_) wb;have I:=F x (by simp[w,Ka]) _ hx;have l:=F m (by simp[w,Ka]) _ hm;have J:=(F s (by simp[w,Ka]) _ hs).sc_inv;obtain⟨c,o',n,p,A,K,L,⟨q2,q4⟩,B⟩:=W.blk _ _ H;subst q4;have N:i < k.length:=(List.getElem?_eq_some_iff.1 z).1;have em:a.eval m= .map (V c):=by
      generalize a.eval m=q at l;cases l with
      | mp b v hA hv h=>
        obtain⟨_,c',o2,n2,X,g2⟩:=h _ H;rw[p] at X;cases X;exact g2
     obtain⟨s1,s2⟩:=qfz W (es2:=k.set i (E,D)) (cs2:=A.modify i λe=> {e with val:=a.eval x}) H p L (by simp[q2]) λj k2 x2 f=>by
      rw[K8] at f;split at f
      .rename_i e;subst e;first | (rw[if_pos N] at f;cases f) | cases f
       obtain⟨r,d,O,C⟩:=B i E y z;exact⟨{r with val:=a.eval x},by simp[JL,d],O,I⟩
      .rename_i Q;obtain⟨r,d,O,C⟩:=B j k2 x2 f;exact⟨r,by simp[JL,Q,d],O,C⟩
     refine⟨_,?_,s1,s2,by simp only[JT];exact qcK ..⟩;have g:A.findIdx? (λe=>(e.born:Int)==(i:Int))=V i:=by
      rw[Array.findIdx?_eq_some_iff_getElem];have u:i < A.size:=wa
      obtain⟨r,d,⟨_,C⟩,_⟩:=B i E y z;rw[JM u] at d;simp only[Option.some.injEq] at d;subst d;refine⟨u,by simp[C],λj f=>?_⟩;obtain⟨r,d,⟨_,R⟩,_⟩:=B j k[j].1 k[j].2 (by rw[KS (show j < k.length by omega)]);rw[JM (show j < A.size by omega)] at d;simp only[Option.some.injEq] at d;rw[d];simp[R];omega
     have S:(asInt (.int .i64 (i:Int))).run P M.w= .ok (i:Int) M.w:=by simp[asInt,asIntOf]
     simp only[execOp,w,Instr.entryStore,em,J,Km,qc0 L,Kp,S,Kn,g,run_putM L,List.length_set]
    .cases h
   .cases h
  .cases h
 .cases h
def teq(P:Program)(t:TypeId):Option (List TK):=match P.eqGuardType P.depth t,tag P t with
 | false,V Y=>tleaf P 20 t
 | _,_=>U
def tptr(P:Program)(t:TypeId):Bool:=match P.underlying t with | some (.pointer _)=>Y | _=>Z
def eqres(op:BinOp)(b:Bool):Option FR:=match op with
 | .eql=>V {x:=scb b}
 | .neq=>V {x:=scb !b}
 | _=>U
def feqv(P:Program)(op:BinOp)(t:TypeId)(x y:IV):Option FR:=match x,y with
 | .agg a, .agg b=>match teq P t,scs a,scs b with
   | some l,V u,V v=>(leq l u v).bind (eqres op)
   | _,_,_=>U
 | .ptr _ _ _ _, .p (.sc (.pointer U))=>if tptr P t then eqres op Z else U
 | .p (.rp _), .p (.sc (.pointer U))=>if tptr P t then eqres op Z else U
 | .p (.sc (.pointer U)), .p (.sc (.pointer U))=>if tptr P t then eqres op Y else U
 | _,_=>U
def qi2{t}(h:tptr P t=Y)(p w):(Kb t (.pointer p) (.pointer U)).run P w= .ok p.isNone w:=by
 unfold tptr at h;split at h
 .rename_i e a;exact run_equalIn_pointer_nil w 9999 t p (by simp[Program.pointee,a])
 grind
def qdI{op b fr}(h:eqres op b=V fr){t u v w}(c:(Kb t u v).run P w= .ok b w)(a: ∀r:Bool,(op= .eql/\r=b\/op= .neq/\r= !b)->(binOp op t u v).run P w= .ok (.bool r) w):
  ∃r,(binOp op t u v).run P w= .ok (.bool r) w/\fr= {x:=scb r}:=by
 unfold eqres at h
 grind
def qiR{op t a b w c}(d:(Kb t (.pointer a) (.pointer b)).run P w= .ok c w)(r)(h:op= .eql/\r=c\/op= .neq/\r= !c):(binOp op t (.pointer a) (.pointer b)).run P w= .ok (.bool r) w:=by rcases h with ⟨rfl,rfl⟩ | ⟨rfl,rfl⟩<;>simp[binOp,d]
def f_eqv{op:BinOp}{t t':TypeId}{x y:Operand}{O Q:IV}{fr:FR}(i:o.op= .binOp op t x y t')(H:ρ x=V O)(I:ρ y=V Q)(h:feqv P op t O Q=V fr):
  fr.ok P o ρ/\fr.R= []/\fr.F= []/\fr.W= []:=by
 have k: ∀(R: ∃r,fr= {x:=scb r}),(∀(M:Mem) (a:Act),MRel M->(∀y∈o.op.operands,∀z,ρ y=V z->VRel M z (a.eval y))->
   ∃r,(do eqGuard op t x y (a.eval x) (a.eval y);binOp op t (a.eval x) (a.eval y):Sem Value).run P M.w= .ok (.bool r) M.w/\fr= {x:=scb r})->fr.ok P o ρ/\fr.R= []/\fr.F= []/\fr.W= []:=by
  rintro⟨K,rfl⟩ S;refine⟨qbl.read λM a D _ e=>?_,rfl,rfl,rfl⟩;obtain⟨r,L,N⟩:=S M a D e;have:K=r:=by
   have:=congrArg FR.x N;simpa[scb] using this
  subst this;refine⟨.bool K,?_, .sc M _⟩;simp only[execOp,i];rw[Km,L];rfl
 have m: ∀ {b:Bool},eqres op b=V fr-> ∃r,fr= {x:=scb r}:=by
  intro b C;unfold eqres at C;split at C<;>first | (cases C;exact⟨_,rfl⟩) | cases C
 unfold feqv at h;split at h
 .rename_i xs ys;split at h
  .rename_i l us vs J L N;simp only[Jr] at h;obtain⟨b,C,h⟩:=h;refine k (m h) λM a D e=>?_;obtain⟨E,s,T,_,W⟩:=(e x ws _ H).agg_inv;obtain⟨F,u,X,_,r2⟩:=(e y ws _ I).agg_inv;have q1:=qdv L T W;have q2:=qdv N X r2;subst q1;subst q2;unfold teq at J;split at J
   .rename_i hg w;have d:(Kb t (.agg ⟨E⟩) (.agg ⟨F⟩)).run P M.w= .ok b M.w:=by
     have:=eq_leaf (P:=P) 9980 20 t l J E F b M.w C;unfold vof at this;rw[w] at this;exact this
    rw[s,u,Km,run_eqGuard_agg M.w op t x y _ _ hg,Kp];refine qdI h d λr e=>?_;rcases e with ⟨rfl,rfl⟩ | ⟨rfl,rfl⟩<;>simp[binOp,d]
   .cases J
  .cases h
 .split at h
  .rename_i b g K j w;refine k (m h) λM a D e=>?_;have u:=(e y ws _ I).sc_inv;have n:=e x ws _ H;obtain⟨c,A,s⟩: ∃c A,a.eval x= .pointer (V ⟨c,A,U⟩):=by
    generalize a.eval x=q at n;cases n with
    | ptr b g r j v hA n h=>exact n
   have d:(Kb t (.pointer (V ⟨c,A,U⟩)) (.pointer U)).run P M.w= .ok Z M.w:=qi2 w _ _;rw[s,u,Km,qaS op t x y wb wb M.w,Kp];exact qdI h d (qiR d)
  .cases h
 .split at h
  .rename_i B w;refine k (m h) λM a D e=>?_;have u:=(e y ws _ I).sc_inv;have n:=e x ws _ H;obtain⟨c,A,s⟩: ∃c A,a.eval x= .pointer (V ⟨c,A,U⟩):=by
    generalize a.eval x=q at n;cases n with
    | p _ _ n=>cases n with
      | rp B c o f ha hc e=>exact⟨c,o,rfl⟩
   have d:(Kb t (.pointer (V ⟨c,A,U⟩)) (.pointer U)).run P M.w= .ok Z M.w:=qi2 w _ _;rw[s,u,Km,qaS op t x y wb wb M.w,Kp];exact qdI h d (qiR d)
  .cases h
 .split at h
  .rename_i w;refine k (m h) λM a D e=>?_;have u:=(e y ws _ I).sc_inv;have s:=(e x ws _ H).sc_inv;have d:(Kb t (.pointer U) (.pointer U)).run P M.w= .ok Y M.w:=qi2 w _ _;rw[s,u,Km,qaS op t x y wb wb M.w,Kp];exact qdI h d (qiR d)
  .cases h
 .cases h
def und_iface{t m k}(a:P.underlying t=V (.interface m))(h:tkd P t=V k):k= .iface:=by simp_all[tkd]
def qeO(P:Program)(t:TypeId)(a:Bool)(x:IV):Option FR:=match tkd P t,x with
 | some .iface,_=>U
 | some _, .p (.sc (.iface d v))=>if d=t then(cstv v).map λz=> {x:=if a then .tup [z,scb Y] else z}
   else if a then((tzv P t).bind cstv).map λz=> {x:= .tup [z,scb Z]} else U
 | some _, .p (.sc .nilIface)=>if a then((tzv P t).bind cstv).map λz=> {x:= .tup [z,scb Z]} else U
 | _,_=>U
def tup2{M x v b}(h:VRel M x v):VRel M (.tup [x,scb b]) (.tuple #[v, .bool b]):=by
 refine .tup _ [v, .bool b] rfl λi y u a c=>?_
 match i,a,c with
 | 0,a,c=>grind
 | 1,a,c=>simp at a c;subst a c;exact .sc M _
def qqC{x:Operand}{E t:TypeId}{s:Bool}{B:IV}{fr:FR}(j:o.op= .typeAssert x E t s)(u:ρ x=V B)(h:qeO P t s B=V fr):fr.ok P o ρ/\fr.R= []/\fr.F= []/\fr.W= []:=by
 unfold qeO at h;split at h
 .cases h
 .rename_i k d v c n;obtain⟨l,m,w⟩:=qaT n;have b: ∀p,l≠ .interface p:=by
   rintro p rfl;exact c (und_iface m n)
  split at h
  .rename_i e;subst e;simp only[Jq] at h;obtain⟨z,C,rfl⟩:=h;refine⟨.read λM a D _ q=>?_,rfl,rfl,rfl⟩;have r:=(q x (by simp[j,Ka]) _ u).sc_inv;refine⟨if s then .tuple #[v, .bool Y] else v,?_,?_⟩
   .simp only[execOp,j,r,Instr.typeAssert,Km,run_underlying m,Kp];cases l<;>first | exact absurd rfl (b _) | simp
   .cases s
    .exact cstv_rel M C
    .exact tup2 (cstv_rel M C)
  .rename_i y;split at h
   .rename_i f;subst f;simp only[Jq,Jr] at h;obtain⟨z,⟨A,g,i⟩,rfl⟩:=h;refine⟨.read λM a D _ q=>?_,rfl,rfl,rfl⟩;have r:=(q x (by simp[j,Ka]) _ u).sc_inv;refine⟨.tuple #[A, .bool Z],?_,tup2 (cstv_rel M i)⟩;simp only[execOp,j,r,Instr.typeAssert,Km,run_underlying m,Kp];cases l<;>first | exact absurd rfl (b _) | simp[y,qha g]
   .cases h
 .rename_i k c n;obtain⟨l,m,w⟩:=qaT n;have b: ∀p,l≠ .interface p:=by
   rintro p rfl;exact c (und_iface m n)
  split at h
  .rename_i f;subst f;simp only[Jq,Jr] at h;obtain⟨z,⟨A,g,i⟩,rfl⟩:=h;refine⟨.read λM a D _ q=>?_,rfl,rfl,rfl⟩;have r:=(q x (by simp[j,Ka]) _ u).sc_inv;refine⟨.tuple #[A, .bool Z],?_,tup2 (cstv_rel M i)⟩;simp only[execOp,j,r,Instr.typeAssert,Km,run_underlying m,Kp];cases l<;>first | exact absurd rfl (b _) | simp[qha g]
  .cases h
 .cases h
end Go.Idl
namespace Go.Idl
variable{P:Program}{o:Oper}{ρ:Operand->Option IV}{G:Nat->Option IBlk}
def qf3:List (List IV)->Option (List Int)
 | []=>V []
 | [.p (.sc (.int .u8 n))]::r=>(qf3 r).map (n::·)
 | _=>U
def qkl(l:List Int):ByteArray:=⟨(l.map λn=>JY n.toNat).toArray⟩
def fb2s(P:Program)(G:Nat->Option IBlk)(s dst:TypeId)(x:IV):Option FR:=match tkd P s,tkd P dst with
 | some (.slice e),V .string=>match tkd P e,qcF G 1 x with
   | some (.int .u8),V (r,R)=>(qf3 r).map λl=> {x:= .p (.sc (.string (qkl l))),R}
   | _,_=>U
 | _,_=>U
def qhZ: ∀ {rs l},qf3 rs=V l->rs.length=l.length/\ ∀(i:Nat) (n),l[i]? =V n->rs[i]? =V [.p (.sc (.int .u8 n))]
 | [],l,h=>by cases h;simp
 | b::r,l,h=>by
   unfold qf3 at h;split at h
   .grind
   .rename_i n g e;cases e;simp at h;obtain⟨j,c,rfl⟩:=h;obtain⟨d,f⟩:=qhZ c
    grind
   grind
def qpv(l:List Int): ∀(s:ByteArray),l.foldl (λr n=>r.push (JY n.toNat)) s=⟨s.data++(l.map λn=>JY n.toNat).toArray⟩:=by induction l<;>simp_all
def f_b2s{s dst:TypeId}{x:Operand}{zx:IV}{fr:FR}(p:o.op= .convert s dst x)(y:ρ x=V zx)(h:fb2s P G s dst zx=V fr):fr.ok P o ρ/\(∃rs,qcF G 1 zx=V (rs,fr.R))/\fr.F= []/\fr.W= []:=by
 unfold fb2s at h;split at h
 .rename_i e q k;split at h
  .rename_i rs R z t;simp only[Jq] at h;obtain⟨l,A,rfl⟩:=h;refine⟨.read λM a B C D=>?_,⟨rs,t⟩,rfl,rfl⟩;obtain⟨O,E,u⟩:=qaT q;obtain⟨Q,F,v⟩:=qaT k;obtain⟨S,H,w⟩:=qaT z;simp only at u v w;subst u v w;obtain⟨j,d,f,g⟩:=qeE (P:=P) t B C (D x vo _ y);obtain⟨I,J⟩:=qhZ A;have K: ∀(i:Nat) (n:Int),l[i]? =V n->f i= .int .u8 n:=by
    intro i n L;have:=g.rel i _ 0 _ (J i n L) rfl;simp only[KG,Ky] at this;exact this.2.sc_inv
   have c:((KZ rs.length).map f).toArray=(l.map (Value.int .u8)).toArray:=by
    grind
   have b:=g.pre rs.length (Kq _);rw[KG,c] at b;refine⟨.string (qkl l),?_, .sc M _⟩;have N:qkl l=l.foldl (λr n=>r.push (JY n.toNat)) ByteArray.empty:=by
    simp_all[qpv,qkl]
   simp only[execOp,p,g.val];rw[Km,run_convert_bytes_string M.w s dst e j rs.length d E H F];cases j with
   | none=>
     rw[g.val] at b;simp only[Ju,Kn,Result.ok.injEq] at b;have m:l= []:=by
      simp_all
     subst m;rfl
   | some j=>
     rw[g.val] at b;simp only[Ju,KG] at b;rw[run_bytesToString M.w j rs.length d l b,N];rfl
  simp_all
 simp_all
def fcap:IV->Option FR
 | .p (.sc (.slice U 0 0))=>V {x:=sci .i64 0}
 | .p .emp=>V {x:=sci .i64 0}
 | _=>U
def f_cap{x:Operand}{t:TypeId}{zx:IV}{fr:FR}(d:o.op= .call {callee:= .builtin .cap,args:=#[x],argTypes:=#[t]})(g:ρ x=V zx)(i:(tel P t).isSome=Y)(h:fcap zx=V fr):fr.ok P o ρ/\fr.R= []/\fr.F= []/\fr.W= []:=by
 obtain⟨e,j⟩:=Option.isSome_iff_exists.1 i;have l:=und_tel j;have k: ∀(M:Mem) (a:Act),(∃c,a.eval x= .slice c 0 0)->(execOp a.eval o).run P M.w= .ok (.value (.int .i64 0)) M.w:=by
  rintro M a ⟨c,m⟩;simp[execOp,d,resolve,invoke,builtin,m,Builtin.cap_,run_underlying l,goInt]
 unfold fcap at h;split at h
 .simp only[Option.some.injEq] at h;subst h;refine⟨.read λM a _ _ f=>⟨_,k M a ⟨U,?_⟩, .sc M _⟩,rfl,rfl,rfl⟩;exact(f x (by simp[d,Ka,Call.operands]) _ g).sc_inv
 .simp only[Option.some.injEq] at h;subst h;refine⟨.read λM a _ _ f=>⟨_,k M a ?_, .sc M _⟩,rfl,rfl,rfl⟩;have b:=f x (by simp[d,Ka,Call.operands]) _ g;generalize a.eval x=q at b;cases b with
  | p _ _ b=>cases b with
    | emp c=>exact⟨c,rfl⟩
 .cases h
def fslnil(P:Program)(G:Nat->Option IBlk)(op:BinOp)(t:TypeId)(x y:IV):Option FR:=match x,y with
 | .p (.sc (.slice U 0 0)), .p (.sc (.slice U 0 0))=>if(tel P t).isSome then eqres op Y else U
 | .p (.imm _ (_::_)), .p (.sc (.slice U 0 0))=>if(tel P t).isSome then eqres op Z else U
 | .ref b g _ (_+1), .p (.sc (.slice U 0 0))=>match G b with
   | some (.arr s a r)=>if(tel P t).isSome/\g=a then(eqres op Z).map λf=> {f with R:= [(b, .arr s a r)]} else U
   | _=>U
 | _,_=>U
def qjT{op:BinOp}{t:TypeId}{x y:Operand}{a:Option Addr}{l c:Nat}{fr:FR}(f:(tel P t).isSome=Y)(h:eqres op a.isNone=V fr)(w:World):
  ∃r,(do eqGuard op t x y (.slice a l c) (.slice U 0 0);binOp op t (.slice a l c) (.slice U 0 0):Sem Value).run P w= .ok (.bool r) w/\fr= {x:=scb r}:=by
 obtain⟨e,g⟩:=Option.isSome_iff_exists.1 f;have i:=und_tel g;have b:(Kb t (.slice a l c) (.slice U 0 0)).run P w= .ok a.isNone w:=by
  have k: ∀d:Nat,(Kc (d+1) t (.slice a l c) (.slice U 0 0)).run P w= .ok a.isNone w:=by
   intro d;cases a<;>simp[Kc,run_underlying i]
  exact k 9999
 rw[Km,qaS op t x y wb wb w,Kp];refine qdI h b λr j=>?_;rcases j with ⟨rfl,rfl⟩ | ⟨rfl,rfl⟩<;>simp[binOp,b]
def qr0{op:BinOp}{t t':TypeId}{x y:Operand}{zx X:IV}{fr:FR}(u:o.op= .binOp op t x y t')(N:ρ x=V zx)(O:ρ y=V X)(h:fslnil P G op t zx X=V fr):
  fr.ok P o ρ/\(∀p∈fr.R,G p.1=V p.2)/\fr.F= []/\fr.W= []:=by
 have w: ∀ {b:Bool} {d:FR} {R:List (Nat × IBlk)},(tel P t).isSome=Y->eqres op b=V d->
   (∀(M:Mem) (a:Act),MRel M->(∀p∈R,M.H.G p.1=V p.2)->(∀y∈o.op.operands,∀z,ρ y=V z->VRel M z (a.eval y))-> ∃A l c,a.eval x= .slice A l c/\a.eval y= .slice U 0 0/\A.isNone=b)->
   qbl P o ρ R [] d.x []:=by
  intro b d R B K Q;refine .read λM a L H i=>?_;obtain⟨A,l,c,S,I,e3⟩:=Q M a L H i;subst e3;obtain⟨r,k,j⟩:=qjT (x:=x) (y:=y) (l:=l) (c:=c) B K M.w;refine⟨.bool r,?_,?_⟩
  .simp only[execOp,u,S,I];rw[Km,k];rfl
  .rw[j];exact .sc M _
 have C: ∀ {b:Bool} {d:FR},eqres op b=V d->d.R= []/\d.F= []/\d.W= []:=by
  intro b d F;unfold eqres at F;split at F<;>first | (cases F;exact⟨rfl,rfl,rfl⟩) | cases F
 unfold fslnil at h;split at h
 .split at h
  .rename_i B;obtain⟨k,j,m⟩:=C h;refine⟨?_,by rw[k];simp,j,m⟩;unfold FR.ok;rw[k,j,m];exact w B h λM a L H i=>⟨U,0,0,(i x w7 _ N).sc_inv,(i y w7 _ O).sc_inv,rfl⟩
  .cases h
 .split at h
  .rename_i s r rs B;obtain⟨k,j,m⟩:=C h;refine⟨?_,by rw[k];simp,j,m⟩;unfold FR.ok;rw[k,j,m];refine w B h λM a L H i=>?_;have I:=(i y w7 _ O).sc_inv;have D:=i x w7 _ N;generalize a.eval x=q at D;cases D with
   | p _ _ D=>cases D with
     | imm sz J A E c o' f hl hm ha hs hc i=>
       obtain⟨e,_⟩:=ha wb;exact⟨A,_,E,rfl,I,by rw[e];rfl⟩
  .cases h
 .split at h
  .rename_i b g T n sz g' J F;split at h
   .rename_i hc;obtain⟨B,rfl⟩:=hc;simp only[Jq] at h;obtain⟨d,K,rfl⟩:=h;obtain⟨k,j,m⟩:=C K;refine⟨?_,by simpa using F,j,m⟩;unfold FR.ok;simp only[j,m];refine w B K λM a L H i=>?_;have I:=(i y w7 _ O).sc_inv;have D:=i x w7 _ N;generalize a.eval x=q at D;cases D with
    | ref b g T a0 v hA a1 Q=>
      have hG:M.H.G _=V _:=H _ (List.mem_cons_self ..);obtain⟨_,W⟩:=Q _ hG;obtain⟨A,E,S,l1,_,_,l4⟩:=W rfl;rcases l4 with l4 | ⟨c,o',n',_,e,_⟩
      .omega
      .exact⟨A,_,E,S,I,by rw[e];rfl⟩
   .cases h
  .cases h
 .cases h
end Go.Idl
namespace Go.Idl
variable{P:Program}{o:Oper}{ρ:Operand->Option IV}{G:Nat->Option IBlk}
def qp1{M:Mem}(Q:MRel M){b s g:Nat}{rows:List (List IV)}(R:M.H.G b=V (.arr s g rows)){c o' n:Nat}(B:M.β b=V (c,o',n)){off m:Nat}{rx:List (List IV)}{news:List Value}
  (hm:rx.length=m) (l:news.length=m * s) (C: ∀a∈rx,a.length=s) (p: ∀v∈news,v.oneCell'=Y)
  (D: ∀(i:Nat) (a:List IV) (j:Nat) (y:IV),rx[i]? =V a->a[j]? =V y-> ∃u,news[i * s+j]? =V u/\u.oneCell'=Y/\VRel M y u) (h3:off+m<=rows.length):
  ∃w',(storeCells ⟨c,o'+off * s,U⟩ news).run P M.w= .ok () w'/\qaf M ⟨w',M.H.put b (.arr s g (rows.take off++rx++rows.drop (off+m))),M.β⟩/\
   MRel ⟨w',M.H.put b (.arr s g (rows.take off++rx++rows.drop (off+m))),M.β⟩:=by
 have x:=Q.blk b _ R;have w: ∀a∈rows.take off++rx++rows.drop (off+m),a.length=s:=by
  intro a q;simp only[Ja] at q;rcases q with (h | h) | h
  .exact x.1 a (KW h)
  .exact C a h
  .exact x.1 a (K3 h)
 have t:(rows.take off++rx++rows.drop (off+m)).length=rows.length:=by
  simp only[KO,KM,KU];omega
 obtain⟨d,K,S,q2,q3,T,W⟩:=x.2.2 c o' n B;have hk:off * s+m * s<=n * s:=by
  rw[<-Kr];exact Ks _ wa
 have a0:=T.1;have E:=run_storeCells_at P c (o'+off * s) K news 0 d M.w S wa p;simp only[Ky,l] at E;have a1:d.toList.length=d.size:=JF;obtain⟨X,r⟩:=mem_chg Q R B S g o' n (rows.take off++rx++rows.drop (off+m))
  (d.toList.take (o'+off * s)++news++d.toList.drop (o'+off * s+m * s)).toArray
  (Kq _) (λ_=>⟨rfl,rfl,t⟩) w (by rw[t];exact q2) q3 (qbn.put T (by rw[l]) wa p) (by
   intro i a j y f J;have z:=qad J;rw[w a (KX f)] at z;rw[KN,KO,KM,KC (show off<=rows.length by omega),hm] at f;split at f
   .rw[KN,KM,KC (show off<=rows.length by omega)] at f;split at f
    .rename_i g1 L;rw[KR,if_pos L] at f;obtain⟨u,F,H,I⟩:=W i a j y f J;refine⟨u,?_,H,I⟩;have N:=qcd (sz:=s) L z;rw[KP,K4,KN,KM,if_pos wa,KR,if_pos wa,JE];exact F
    .rename_i g1 L;obtain⟨u,F,H,I⟩:=D _ a j y f J;refine⟨u,?_,H,I⟩;have N:(i - off) * s+j < m * s:=qcd wa z;have e:i * s=off * s+(i - off) * s:=by rw[<-Kr];congr 1;omega
     rw[KP,KN,KO,KM,l,if_pos wa,KN,KM,if_neg wa,<-F];congr 1;omega
   .rename_i g1;rw[KT] at f;rw[show off+m+(i - (off+m))=i by omega] at f;obtain⟨u,F,H,I⟩:=W i a j y f J;refine⟨u,?_,H,I⟩;have O:(off+m) * s<=i * s:=Ks _ wa;rw[Kr] at O;rw[KP,KN,KO,KM,l,if_neg wa,KT,JE,<-F];congr 1;omega)
 have A:putβ M.β b (V (c,o',n))=M.β:=by funext k;simp only[putβ];split<;>simp_all
 rw[A] at X r;exact⟨_,E,X,r⟩
def qrm{M}(g:MRel M){b blk}(i:M.H.G b=V blk):M.H.put b blk=M.H:=by
 have a:(M.H.put b blk).G=M.H.G:=by grind[AH.put]
 have c:(M.H.put b blk).A=M.H.A:=by
  funext k;exact propext ⟨λh=>h.elim id (λe=>e ▸g.dom b _ i), .inl⟩
 have d:(M.H.put b blk).O=M.H.O:=rfl;cases f:M.H with
 | mk A j l=>
   rw[f] at a c d;exact AH.mk.injEq .. ▸⟨c,a,d⟩
def qga(P:Program)(G:Nat->Option IBlk)(t:TypeId)(x:IV):Option FR:=
 match tel P t with
 | some e=>match x with
   | .p (.sc (.slice U 0 0))=>V {x:= .tup []}
   | .ref b g a l=>match tze P e,tsz P e,G b with
     | some z,V c,V (.arr s d r)=>
       if g=d/\s=c/\z.length=c/\z.all (·.oneCell') then
        V {x:= .tup [],R:= [(b, .arr s d r)],W:= [(b, .arr s g (r.take a++KQ l (zcs z)++r.drop (a+l)))]}
       else U
     | _,_,_=>U
   | _=>U
 | none=>U
def qcT{z n k}(h:k < n * z.size):(Jv z n).toList[k]? =z[k % z.size]? :=by
 have b:=(qil (KK (Kv k) h)).2;have a:k % z.size < z.size:=Kx _ b;simp_all[Jv]
def qbB(z n):(Jv z n).toList.length=n * z.size:=by simp[Jv]
def qrS{t:TypeId}{x:Operand}{zx:IV}{fr:FR}(w:o.op= .call {callee:= .builtin .clear,args:=#[x],argTypes:=#[t]})(X:ρ x=V zx)(h:qga P G t zx=V fr):
  fr.ok P o ρ/\(∀p∈fr.R,G p.1=V p.2)/\fr.F= []/\ ∀p∈fr.W,∃blk,(p.1,blk)∈fr.R:=by
 unfold qga at h;split at h
 .rename_i e he;have H:=und_tel he;split at h
  .simp only[Option.some.injEq] at h;subst h;refine⟨.read λM a I _ K=>⟨.tuple #[],?_,(.tup [] [] rfl (λi x v h=>by simp at h))⟩,wb,rfl,wb⟩;have A:=(K x (by simp[w,Ka,Call.operands]) _ X).sc_inv;simp[execOp,w,resolve,invoke,builtin,A,Jz,run_underlying H]
  .rename_i b g off d;split at h
   .rename_i J sz s g' r hz hs hG;split at h
    .rename_i hc;obtain⟨rfl,rfl,q,h1⟩:=hc;simp only[Option.some.injEq] at h;subst h;refine⟨.does λM a I hR _ K=>?_,by simpa using hG,rfl,wb⟩;have L:M.H.G b=V (.arr s g r):=hR (b,_) wb;obtain⟨z,f,N⟩:=qi8 hz;obtain⟨a0,a1,A,c1,c2,c3,O⟩:=(K x (by simp[w,Ka,Call.operands]) _ X).ref_inv L rfl;simp only[IBlk.len,IBlk.sz] at c2 c3 O;have B:=qcL M h1;have Q:(a0=U\/d=0)->(execOp a.eval o).run P M.w= .ok (.value (.tuple #[])) M.w:=by
      rintro hn;cases d with
      | zero=>cases a0<;>simp[execOp,w,resolve,invoke,builtin,A,Jz,run_underlying H]
      | succ l=>
        rcases hn with rfl | hn
        .simp[execOp,w,resolve,invoke,builtin,A,Jz,run_underlying H]
        .omega
     rcases KE d with h0 | h0
     .subst h0;have u:r.take off++KQ 0 (zcs J)++r.drop (off+0)=r:=wb
      rw[u];refine⟨.tuple #[],M,Q (.inr rfl), .refl M,I,?_,(.tup [] [] rfl (λi x v h=>by simp at h))⟩;rw[qcK,qrm I L]
     .rcases O with O | ⟨c,o',n,R,ea,h5⟩
      .omega
      .subst ea;obtain⟨w',q1,q2,q3⟩:=qp1 (P:=P) I L R (off:=off) (m:=d) (rx:=KQ d (zcs J)) (news:=(Jv z.cells d).toList) wb
        (by rw[qbB,f,<-q];simp) (by intro S C;rw[Je C];simp[zcs,q]) (by
         intro v hv;obtain⟨k,T,e⟩:=Jj hv;rw[qbB] at T;have:=qcT T;rw[KS (by rw[qbB];exact T),e] at this;have hm:v∈z.cells:=Array.mem_of_getElem? this.symm;rw[f] at hm;exact B.one v (by simpa using hm)) (by
         intro i S j y W hj;have D:i < d:=by have:=qad W;simpa using this
         rw[Jf,if_pos D] at W;cases W;obtain⟨v,v1,v2,v3⟩:=B.get hj;have E:j < J.length:=qad v1;refine⟨v,?_,v2,v3⟩;have F:z.cells.size=J.length:=by rw[f];simp
         rw[<-q,qcT (by rw[F];exact qcd D E),F,Ku,KA,KB E,f];simpa using v1) wa
       refine⟨.tuple #[],⟨w',_,M.β⟩,?_,q2,q3,rfl,(.tup [] [] rfl (λi x v h=>by simp at h))⟩;obtain⟨l,rfl⟩: ∃l,d=l+1:=⟨d - 1,wa⟩;simp[execOp,w,resolve,invoke,builtin,A,Jz,run_underlying H,N,q1,Km]
    .cases h
   .cases h
  .cases h
 .cases h
end Go.Idl
namespace Go.Idl
variable{P:Program}{o:Oper}{ρ:Operand->Option IV}{G:Nat->Option IBlk}
def qh4(P:Program)(nx:Nat)(t c:TypeId)(s x:IV):Option FR:=
 match tel P t,tkd P c with
 | some e,V (.int _)=>match tsz P e,tby P e,tze P e with
   | some a,V b,V z=>match s,x with
     | .p (.sc (.slice U 0 0)), .p (.sc (.int _ n))=>
       if z.length=a/\z.all (·.oneCell')/\0 < n/\n<=9223372036854775807/\n.toNat * b<=140737488355328 then
        V {x:= .ref nx 0 0 n.toNat,F:= [nx],W:= [(nx, .arr a 0 (KQ n.toNat (zcs z)))]}
       else U
     | _,_=>U
   | _,_,_=>U
 | _,_=>U
def qhK{t u ty e:TypeId}{sz by_:Nat}{zs:List Value}{i:TypeInfo}{z:Value}{ki:IntKind}(y:P.underlying t=V (.slice e))(A:P.underlying u=V (.int ki))
  (a:P.info? e=V i) (s:i.size=sz) (bytes:i.bytes=by_) (zero:i.zero=V z) (B:z.cells=⟨zs⟩) (E:zs.length=sz)
  {k:IntKind} {n:Nat} {w:World} (h0:0 < n) (f:n<=maxLen) (j:n * by_<=140737488355328):
  (Jw #[t,u] ty #[.slice U 0 0, .int k (n:Int)]).run P w=
   .ok (.slice (V ⟨w.heap.size,0,U⟩) n (grownCap w n 0 e))
    (w.drew.alloc (.cells ((if n * sz=0 then #[] else Jv z.cells n)++Jv z.cells (grownCap w n 0 e - n)) e)):=by
 have C: ∀w,(sizeOf e).run P w= .ok sz w:=qaD (show tsz P e=V sz by simp[tsz,a,s]);have l: ¬(n<=0):=wa
 have v:=growslice_fits (show(0:Nat) < n by omega) j;have h: ¬(JD n 0 * by_ > 2 ^ 48):=by simp only[KL];omega
 have m:IntKind.i64.max=9223372036854775807:=wh
 have D:IntKind.i64.wrap (n:Int)=n:=by
  unfold maxLen at f;rw[IntKind.wrap_i64];omega
 have p: ¬((n:Int) < 0):=wa
 have q: ¬((n:Int) * (by_:Int) > 2 ^ 48):=by
  have:(n:Int) * (by_:Int)=((n * by_:Nat):Int):=wb
  rw[this];omega
 have b: ∀w,(typeInfo e).run P w= .ok i w:=λw=>by simp[typeInfo,a]
 have g: ∀w,(zeroValue e).run P w= .ok z w:=λw=>by simp[zeroValue,typeInfo,a,zero]
 have c: ∀w,(choose (.appendCap n 0 e)).run P w= .ok (grownCap w n 0 e) w.drew:=λw=>by simp[Question.forced,grownCap]
 have r: ∀w,(asInt (.int k (n:Int))).run P w= .ok (n:Int) w:=λw=>by simp[asInt,asIntOf]
 have d: ¬(((n:Nat):Int) > IntKind.i64.max/\(True\/by_=0)):=by
  rw[m];unfold maxLen at f;omega
 unfold Jw;simp only[KP,K5,K9,Km,run_underlying y,Kp,run_underlying A,Kn,C,if_true,r,D,p,if_false,b,bytes,q,JT,l,
  Kw,d,h,c,run_askRoom,Ju,Bool.not_true,JQ]
 by_cases x:n * sz=0
 .simp only[x,if_true,if_false,l,d,Kn,Kp,Km,b,bytes,h,c,run_askRoom,g,newRow,run_newObj,JV,JW,JN]
 .simp only[x,if_true,if_false,l,d,Kn,Kp,Km,b,bytes,h,c,run_askRoom,g,newRow,run_newObj,JV,JW,JN]
def f_appz{t1 L:TypeId}{s x:Operand}{zs zx:IV}{nx:Nat}{fr:FR}(N:o.op= .call {callee:= .builtin .append,args:=#[s,x],argTypes:=#[t1,L]})(hs:ρ s=V zs)(hx:ρ x=V zx)
  (h:qh4 P nx t1 L zs zx=V fr):fr.ok P o ρ/\fr.R= []/\fr.F= [nx]/\ ∃blk,fr.W= [(nx,blk)]:=by
 unfold qh4 at h;split at h
 .rename_i e ki he hk;obtain⟨kd,b,a0⟩:=qaT hk;have b: ∃kj,P.underlying L=V (.int kj):=by
   cases kd<;>simp_all
  obtain⟨kj,b⟩:=b;split at h
  .rename_i q a1 c O hb d;split at h
   .rename_i k n;split at h
    .rename_i hc;obtain⟨D,c2,c3,c4,c5⟩:=hc;simp only[Option.some.injEq] at h;subst h;refine⟨?_,rfl,rfl,_,rfl⟩;cases Q:P.info? e with
     | none=>simp[tsz,Q] at O
     | some i=>
       simp only[tsz,tby,tze,Q,Jp,Option.some.injEq,Js] at O hb d;cases r:i.zero with
       | none=>simp[r] at d
       | some z=>
         simp only[r,Jp,Option.some.injEq] at d;obtain⟨m,rfl⟩:=JU (show 0<=n by omega);simp only[JT] at *;refine .does λM a hM _ hF hr=>?_;have e1:=(hr s (by simp[N,Ka,Call.operands]) _ hs).sc_inv;have e2:=(hr x (by simp[N,Ka,Call.operands]) _ hx).sc_inv;have hm:0 < m:=wa
         have E:m<=maxLen:=wt
         have f:z.cells=⟨c⟩:=by rw[<-d]
         have g:z.cells.size=c.length:=by rw[f];simp
         have F:=qhK (P:=P) (ty:=o.type) (und_tel he) b Q O hb r f D (k:=k) (n:=m) (w:=M.w) hm E c5;have R:=qcL (⟨M.w.drew,M.H,M.β⟩:Mem) c2;have s1:=qaf.drew M;have S:=hM.drew;have t:=grownCap_ge M.w m 0 e;have T:=grownCap_le_maxLen M.w m 0 e E;generalize grownCap M.w m 0 e=C at *;have A:(Jv z.cells (C - m)).size=(C - m) * q:=by rw[<-JF,qbB,g,D]
         have l:(if m * q=0 then #[] else Jv z.cells m).size=m * q:=by
          split
          .rename_i h0;rw[h0];rfl
          .rw[<-JF,qbB,g,D]
         obtain⟨s2,r2⟩:=qdt S nx (hF nx wb) q 0 C (KQ m (zcs c)) ((if m * q=0 then #[] else Jv z.cells m)++Jv z.cells (C - m)) e
          (by intro W H;rw[Je H];simp[zcs,D]) (by simp;exact t) T (qbn.all (by
           rw[JH,l,A,<-Kr];exact Ks _ wa) (by
           have I: ∀u∈z.cells.toList,u.oneCell'=Y:=λu hu=>by
            rw[f] at hu;exact List.all_eq_true.1 c2 u hu
           intro v hv;rw[JK,Ja] at hv;rcases hv with h | h
           .split at h
            .simp at h
            .exact zeroCells_one I v h
           .exact zeroCells_one I v h)) (by
           intro i' W j y B hj;have J:i' < m:=by have:=qad B;simpa using this
           rw[Jf,if_pos J] at B;cases B;obtain⟨v,v1,v2,v3⟩:=R.get hj;have X:j < c.length:=qad v1;refine⟨v,?_,v2,v3⟩;have K:i' * q+j < m * q:=qcd J wa;rw[JG,if_pos (by rw[l];exact K),if_neg wa,<-JE,<-D,qcT (by rw[g,D];exact K),g,Ku,KA,KB X,f];simpa using v1)
         refine⟨.slice (V ⟨M.w.heap.size,0,U⟩) m C,⟨_,_,_⟩,?_,s1.trans s2,r2,rfl, .ref nx 0 0 m _ (.inr rfl) ⟨_,_,rfl⟩ λblk p=>?_⟩
         .simp only[execOp,N,resolve,invoke,builtin,Km,Kn,Kp,K0,Jg,Jh,e1,e2,F]
         .simp only[AH.put,if_true,Option.some.injEq] at p;subst p;exact⟨Kq _,λ_=>⟨_,_,rfl,t,wQ,by simp[IBlk.len];exact t, .inr ⟨M.w.heap.size,0,C,wr,wb,wa⟩⟩⟩
    .cases h
   .cases h
  .cases h
 .cases h
end Go.Idl
