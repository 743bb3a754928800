/- Facts leant on. -/
import Derived.Test.YtfhhdgkhajkapaaGreatIdAz
import Derived.OrdersIn
import Derived.TacticsIn
import Derived.LoopNIn
import Derived.Sort.LoopGhostIn
import Derived.RangeFuncCalls
import Derived.Deep.LoopGhost
import Derived.Scope
import Derived.Recover
set_option linter.all false
open List renaming getElem?_eq_getElem->Ka,mem_of_getElem?->Kb,mem_cons_self->Kc,range'->Kd,getElem_of_mem->Ke,getElem?_toArray->Kf,getElem?_map->Kg,getElem?_drop->Kh,length_append->Ki,mem_cons->Kj,not_mem_nil->Kk,getElem_mem->Kl,eq_nil_of_length_eq_zero->Km,size_toArray->Kn,getElem?_cons_zero->Ko,filter_cons->Kp,cons_append->Kq,getElem?_set->Kr,reverse_reverse->Ks
open Option renaming map_eq_some_iff->Kt,bind_eq_some_iff->Ku,bind_some->Kv
open Nat renaming le_refl->Kw,lt_of_lt_of_le->Kx,not_lt_zero->Ky,zero_le->Kz,lt_irrefl->KA,sub_zero->KB,lt_or_gt_of_ne->KC,lt_succ_of_lt->KD
open Array renaming ext'->KE,replicate->KF
open Go.Sem renaming run_pure->KG,run_bind->KH
open Bool renaming and_eq_true->KI,false_eq_true->KJ
open Go.Result renaming andThen_ok->KK
open Option renaming none->U,some->V
open Bool renaming true->Y,false->Z
namespace Go.Idl
variable{P:Program}{o:Oper}{ρ:Operand->Option IV}{G:Nat->Option IBlk}
def qkf(a:Array Oper):Option Tmp->Bool
 | some d=>go d a.toList
 | none=>Y
where
 go (d:Tmp):List Oper->Bool
  | []=>Z
  | o::r=>match o.op with
    | .call {callee:= .builtin .append,args:=⟨[_, .tmp t]⟩,argTypes:=_}=>match Nat.beq t d with
      | true=>Y
      | false=>go d r
    | _=>go d r
def fop(P:Program)(ρ:Operand->Option IV)(G:Nat->Option IBlk)(nx:Nat)(A:Array Oper)(dst:Option Tmp):Op->Option FR
 | .move y | .assign y=>(ρ y).map λz=> {x:=z}
 | .pick c x y=>match ρ c,ρ x,ρ y with
   | some (.p (.sc (.bool t))),V u,V v=>V {x:=if t then u else v}
   | _,_,_=>U
 | .load t y=>(ρ y).bind (qgQ P G t)
 | .fieldAddr s y f=>(ρ y).bind (qeQ P s f)
 | .indexAddr t x i=>match ρ x,ρ i with
   | some a,V j=>qeS P G t a j
   | _,_=>U
 | .index t x i=>match ρ x,ρ i with
   | some a,V j=>qeU P t a j
   | _,_=>U
 | .field t x f=>(ρ x).bind (qeR P t f)
 | .slice t x L M N=>match ρ x,ropt ρ L,ropt ρ M,ropt ρ N with
   | some a,V B,V C,V D=>qeX P G t a B C D
   | _,_,_,_=>U
 | .binOp g t x y _=>match ρ x,ρ y with
   | some a,V q=>orE (fbin P g t a q) (orE (qeg g a q) (orE (feqv P g t a q) (fslnil P G g t a q)))
   | _,_=>U
 | .unOp g _ x=>(ρ x).bind (fun1 g)
 | .convert s d x=>(ρ x).bind λa=>orE (fconv P s d a) (fb2s P G s d a)
 | .extract x i=>(ρ x).bind (fextract i)
 | .makeFunc O first E=>match rlist ρ first.toList,rlist ρ E.toList with
   | some Q,V F=>V {x:= .clo O Q F}
   | _,_=>U
 | .makeInterface t x=>(ρ x).bind (qeT P t)
 | .nilCheck x=>(ρ x).bind fnil
 | .build t e=>(rparts ρ e.toList).bind (qeP P t)
 | .buildSlice t H e=>(rparts ρ e.toList).bind (qc3 P nx (qkf A dst) t H)
 | .box _ x=>(ρ x).bind (fbox nx)
 | .alloc t=>qeN P nx t
 | .makeSlice t l c=>match ρ l,ρ c with
   | some R,V F=>qgR P nx t R F
   | _,_=>U
 | .store t p x=>match ρ p,ρ x with
   | some S,V a=>fstore P G t S a
   | _,_=>U
 | .makeMap _ r=>match r with
   | none=>qgh nx U
   | some _=>U
 | .lookup t x i I=>match ρ x,ρ i with
   | some a,V j=>qeV P G t a j I
   | _,_=>U
 | .mapUpdate t m k x | .insert t m k x=>match ρ m,ρ k,ρ x with
   | some n,V J,V a=>qd4 P G t n J a
   | _,_,_=>U
 | .mapEntry t m k=>match ρ m,ρ k with
   | some n,V J=>qeW P G t n J
   | _,_=>U
 | .entryStore _ m s x=>match ρ m,ρ s,ρ x with
   | some n,V h,V a=>qgb G n h a
   | _,_,_=>U
 | .typeAssert x _ t I=>(ρ x).bind (qeO P t I)
 | .call {callee:= .builtin b,args,argTypes}=>match b with
   | .cap=>match args.toList,argTypes.toList with
     | [x], [t]=>(ρ x).bind λa=>if(tel P t).isSome then fcap a else U
     | _,_=>U
   | .len=>match args.toList,argTypes.toList with
     | [x], [t]=>(ρ x).bind λa=>if qef P t a then flen G a else U
     | _,_=>U
   | .append=>match args.toList,argTypes.toList with
     | [s,x], [w,K]=>match ρ s,ρ x with
       | some h,V a=>orE (fapp P G nx w K h a) (qh4 P nx w K h a)
       | _,_=>U
     | _,_=>U
   | .copy=>match args.toList,argTypes.toList with
     | [s,x],w::_=>match ρ s,ρ x with
       | some h,V a=>qgP P G w h a
       | _,_=>U
     | _,_=>U
   | .clear=>match args.toList,argTypes.toList with
     | [x], [t]=>(ρ x).bind (qga P G t)
     | _,_=>U
   | .max=>(rlist ρ args.toList).bind (fmax Y)
   | .min=>(rlist ρ args.toList).bind (fmax Z)
   | _=>U
 | .call {callee:= .value f,args,argTypes:=_}=>qf9 P ρ f args.toList
 | _=>U
structure FR.fits(fr:FR)(G:Nat->Option IBlk)(nx:Nat):Prop where
 reads: ∀p∈fr.R,G p.1=V p.2
 new:(fr.F= []/\ ∀p∈fr.W,∃blk,(p.1,blk)∈fr.R)\/(fr.F= [nx]/\ ∃blk,fr.W= [(nx,blk)])
def fits_read{x nx}:FR.fits {x} G nx:=⟨wb, .inl ⟨rfl,wb⟩⟩
def irows_reads{sz z rs R}(h:qcF G sz z=V (rs,R)): ∀p∈R,G p.1=V p.2:=by
 unfold qcF at h
 grind
def iapp_reads{sz z rs R}(h:iapp G sz z=V (rs,R)): ∀p∈R,G p.1=V p.2:=by
 unfold iapp at h;split at h
 .grind
 .exact irows_reads h
def mlook_G{t x i b es k r e}(h:qfB P G t x i=V (b,es,k,r,e)):G b=V (.mp es):=by
 unfold qfB at h
 grind[Kt]
def qgg{t m k x nx fr}(h:qd4 P G t m k x=V fr):fr.fits G nx:=by
 unfold qd4 at h;split at h
 .rename_i a;cases h;exact⟨by simpa using mlook_G a, .inl ⟨rfl,wb⟩⟩
 .rename_i a;cases h;exact⟨by simpa using mlook_G a, .inl ⟨rfl,wb⟩⟩
 grind
def qet{nx:Nat}{a2:Array Oper}{dd:Option Tmp}{fr:FR}(h:fop P ρ G nx a2 dd o.op=V fr):fr.ok P o ρ/\fr.fits G nx:=by
 obtain⟨n,R,H,q,a,guard⟩:=o;cases R
 case move y=>
  simp only[fop,Kt] at h;obtain⟨z,g,rfl⟩:=h;exact⟨qpu (.inl rfl) g,fits_read⟩
 case assign y=>
  simp only[fop,Kt] at h;obtain⟨z,g,rfl⟩:=h;exact⟨qpu (.inr rfl) g,fits_read⟩
 case pick c x y=>
  simp only[fop] at h;split at h
  .rename_i t u v hc e W;simp only[Option.some.injEq] at h;subst h;exact⟨f_pick rfl hc e W,fits_read⟩
  .cases h
 case load t y=>
  simp only[fop,Ku] at h;obtain⟨z,g,h⟩:=h;refine⟨f_load rfl g h,?_⟩;unfold qgQ at h;split at h
  .split at h
   .rename_i E;split at h
    .split at h
     .simp only[Kt] at h;obtain⟨x,_,rfl⟩:=h;exact⟨w8, .inl ⟨rfl,wb⟩⟩
     .cases h
    .cases h
   .cases h
  .simp only[Kt] at h;obtain⟨x,_,rfl⟩:=h;exact fits_read
  .cases h
 case fieldAddr s y f=>
  simp only[fop,Ku] at h;obtain⟨z,g,h⟩:=h;refine⟨qrT rfl g h,?_⟩;unfold qeQ at h;split at h;all_goals first
   | (cases h;done)
   | (split at h
      .split at h
       .simp only[Option.some.injEq] at h;subst h;exact fits_read
       .cases h
      .cases h)
 case indexAddr t x i=>
  simp only[fop] at h;split at h
  .rename_i F zi e X;refine⟨qrV rfl e X h,?_⟩;unfold qeS at h;split at h
   .split at h
    .split at h
     .split at h
      .split at h
       .simp only[Option.some.injEq] at h;subst h;exact fits_read
       .cases h
      .cases h
     .cases h
    .cases h
   .split at h
    .split at h
     .rename_i E;split at h
      .simp only[Option.some.injEq] at h;subst h;exact⟨w8, .inl ⟨rfl,wb⟩⟩
      .cases h
     .cases h
    .cases h
   .split at h
    .split at h
     .simp only[Option.some.injEq] at h;subst h;exact fits_read
     .cases h
    .cases h
   .split at h
    .split at h
     .simp only[Option.some.injEq] at h;subst h;exact fits_read
     .cases h
    .cases h
   .cases h
  .cases h
 case index t x i=>
  simp only[fop] at h;split at h
  .rename_i F zi e X;refine⟨qrW rfl e X h,?_⟩;unfold qeU at h;split at h
   .split at h
    .split at h
     .simp only[Kt] at h;obtain⟨x,_,rfl⟩:=h;exact fits_read
     .cases h
    .cases h
   .split at h
    .simp only[Kt] at h;obtain⟨x,_,rfl⟩:=h;exact fits_read
    .cases h
   .cases h
  .cases h
 case field t x f=>
  simp only[fop,Ku] at h;obtain⟨z,g,h⟩:=h;refine⟨qrU rfl g h,?_⟩;unfold qeR at h;split at h
  .split at h
   .simp only[Kt] at h;obtain⟨x,_,rfl⟩:=h;exact fits_read
   .cases h
  .cases h
 case slice t x lo X mx=>
  simp only[fop] at h;split at h
  .rename_i F a6 a7 a8 e a3 a4 a5;refine⟨qrZ rfl e a3 a4 a5 h,?_⟩;unfold qeX at h;split at h
   .split at h
    .split at h
     .split at h
      .simp only[Option.some.injEq] at h;subst h;exact fits_read
      .cases h
     .cases h
    .split at h
     .rename_i E;split at h
      .simp only[Option.some.injEq] at h;subst h;exact⟨w8, .inl ⟨rfl,wb⟩⟩
      .cases h
     .cases h
    .split at h
     .simp only[Option.some.injEq] at h;subst h;exact fits_read
     .cases h
    .split at h
     .simp only[Option.some.injEq] at h;subst h;exact fits_read
     .cases h
    .split at h
     .simp only[Option.some.injEq] at h;subst h;exact fits_read
     .cases h
    .cases h
   .split at h;all_goals first
     | (cases h;done)
     | (simp only[Option.some.injEq] at h;subst h;exact fits_read)
  .cases h
 case binOp R t x y t'=>
  simp only[fop] at h;split at h
  .rename_i F zy e W;unfold orE at h;split at h
   .rename_i S w;cases h;refine⟨f_bin rfl e W w,?_⟩;unfold fbin at w;split at w
    .simp only[Kt] at w;obtain⟨x,_,rfl⟩:=w;exact fits_read
    .cases w
   .have a0:(fr.ok P ⟨n, .binOp R t x y t',H,q,a,guard⟩ ρ/\fr.R= []/\fr.F= []/\fr.W= [])->fr.ok P ⟨n, .binOp R t x y t',H,q,a,guard⟩ ρ/\fr.fits G nx:=by
     rintro⟨A,B,C,D⟩;refine⟨A,?_, .inl ⟨C,?_⟩⟩
     .rw[B];simp
     .rw[D];simp
    split at h
    .rename_i S w;cases h;exact a0 (qrY (o:=⟨n, .binOp R t x y t',H,q,a,guard⟩) rfl e W w)
    .split at h
     .rename_i S w;cases h;exact a0 (f_eqv (o:=⟨n, .binOp R t x y t',H,q,a,guard⟩) rfl e W w)
     .obtain⟨A,B,C,D⟩:=qr0 (o:=⟨n, .binOp R t x y t',H,q,a,guard⟩) rfl e W h;exact⟨A,B, .inl ⟨C,by rw[D];simp⟩⟩
  .cases h
 case unOp R t x=>
  simp only[fop,Ku] at h;obtain⟨z,g,h⟩:=h;refine⟨f_un rfl g h,?_⟩;unfold fun1 at h;split at h
  .simp only[Kt] at h;obtain⟨x,_,rfl⟩:=h;exact fits_read
  .cases h
 case convert s d x=>
  simp only[fop,Ku] at h;obtain⟨z,g,h⟩:=h;unfold orE at h;split at h
  .rename_i S w;cases h;refine⟨f_conv rfl g w,?_⟩;unfold fconv at w;split at w
   .simp only[Kt] at w;obtain⟨x,_,rfl⟩:=w;exact fits_read
   .cases w
  .obtain⟨A,⟨rs,B⟩,C,D⟩:=f_b2s (o:=⟨n, .convert s d x,H,q,a,guard⟩) rfl g h;refine⟨A,irows_reads B, .inl ⟨C,?_⟩⟩;rw[D];simp
 case makeMap t r=>
  simp only[fop] at h;split at h
  .refine⟨qrX rfl rfl h,?_⟩;simp only[qgh,Option.some.injEq] at h;subst h;exact⟨wb, .inr ⟨rfl,_,rfl⟩⟩
  .cases h
 case lookup t x i ok=>
  simp only[fop] at h;split at h
  .rename_i F zi e X;refine⟨qqD rfl e X h,?_⟩;unfold qeV at h;split at h
   .rename_i K;simp only[Option.some.injEq] at h;subst h;exact⟨w9, .inl ⟨rfl,wb⟩⟩
   .rename_i K;split at h
    .simp only[Option.some.injEq] at h;subst h;exact⟨w9, .inl ⟨rfl,wb⟩⟩
    .cases h
   .cases h
  .cases h
 case mapUpdate t m k x=>
  simp only[fop] at h;split at h
  .rename_i zm zk F T L e;exact⟨qlj (.inl rfl) T L e h,qgg h⟩
  .cases h
 case insert t m k x=>
  simp only[fop] at h;split at h
  .rename_i zm zk F T L e;exact⟨qlj (.inr rfl) T L e h,qgg h⟩
  .cases h
 case mapEntry t m k=>
  simp only[fop] at h;split at h
  .rename_i zm zk T L;refine⟨f_mapent rfl T L h,?_⟩;unfold qeW at h;split at h
   .rename_i K;simp only[Option.some.injEq] at h;subst h;exact⟨w9, .inl ⟨rfl,wb⟩⟩
   .rename_i K;split at h
    .simp only[Option.some.injEq] at h;subst h;exact⟨w9, .inl ⟨rfl,wb⟩⟩
    .cases h
   .cases h
  .cases h
 case entryStore t m s x=>
  simp only[fop] at h;split at h
  .rename_i zm zs F T hs e;refine⟨f_entst rfl T hs e h,?_⟩;unfold qgb at h;split at h
   .split at h
    .rename_i E;split at h
     .split at h
      .simp only[Option.some.injEq] at h;subst h;exact⟨w8, .inl ⟨rfl,wb⟩⟩
      .cases h
     .cases h
    .cases h
   .cases h
  .cases h
 case typeAssert x xt t ok=>
  simp only[fop,Ku] at h;obtain⟨z,g,h⟩:=h;obtain⟨A,B,C,D⟩:=qqC (o:=⟨n, .typeAssert x xt t ok,H,q,a,guard⟩) rfl g h;refine⟨A,?_, .inl ⟨C,?_⟩⟩
  .rw[B];simp
  .rw[D];simp
 case extract x i=>
  simp only[fop,Ku] at h;obtain⟨z,g,h⟩:=h;refine⟨qpt rfl g h,?_⟩;unfold fextract at h;split at h
  .simp only[Kt] at h;obtain⟨x,_,rfl⟩:=h;exact fits_read
  .cases h
 case makeFunc fn first cap=>
  simp only[fop] at h;split at h
  .rename_i zf zc hf hc;simp only[Option.some.injEq] at h;subst h;exact⟨f_func (first:=first.toList) (cap:=cap.toList) rfl hf hc,fits_read⟩
  .cases h
 case makeInterface t x=>
  simp only[fop,Ku] at h;obtain⟨z,g,h⟩:=h;refine⟨f_iface rfl g h,?_⟩;unfold qeT at h;split at h
  .split at h
   .cases h
   .simp only[Option.some.injEq] at h;subst h;exact fits_read
   .cases h
  .split at h
   .cases h
   .simp only[Option.some.injEq] at h;subst h;exact fits_read
   .cases h
  .cases h
 case nilCheck x=>
  simp only[fop,Ku] at h;obtain⟨z,g,h⟩:=h;refine⟨f_nil rfl g h,?_⟩;unfold fnil at h;split at h;all_goals first
   | (cases h;done)
   | (simp only[Option.some.injEq] at h;subst h;exact fits_read)
 case build t parts=>
  simp only[fop,Ku] at h;obtain⟨z,g,h⟩:=h;refine⟨qrR (parts:=parts.toList) rfl g h,?_⟩;unfold qeP at h;split at h
  .split at h
   .split at h
    .simp only[Kt] at h;obtain⟨x,_,rfl⟩:=h;exact fits_read
    .split at h
     .simp only[Kt] at h;obtain⟨x,_,rfl⟩:=h;exact fits_read
     .cases h
    .cases h
   .cases h
  .cases h
 case buildSlice t a9 parts=>
  simp only[fop,Ku] at h;obtain⟨z,g,h⟩:=h;refine⟨qli (parts:=parts.toList) rfl g h,?_⟩;unfold qc3 at h;split at h
  .split at h
   .simp only[Option.some.injEq] at h;subst h;exact fits_read
   .simp only[Option.some.injEq] at h;subst h;exact⟨wb, .inr ⟨rfl,_,rfl⟩⟩
  .cases h
 case box t x=>
  simp only[fop,Ku] at h;obtain⟨z,g,h⟩:=h;refine⟨f_box rfl g h,?_⟩;unfold fbox at h;simp only[Kt] at h;obtain⟨cs,_,rfl⟩:=h;exact⟨wb, .inr ⟨rfl,_,rfl⟩⟩
 case alloc t=>
  simp only[fop] at h;refine⟨qrQ rfl h,?_⟩;unfold qeN at h;split at h
  .split at h
   .simp only[Option.some.injEq] at h;subst h;exact⟨wb, .inr ⟨rfl,_,rfl⟩⟩
   .cases h
  .cases h
 case makeSlice t l c=>
  simp only[fop] at h;split at h
  .rename_i zl zc K hc;refine⟨f_make rfl K hc h,?_⟩;unfold qgR at h;split at h
   .split at h
    .split at h
     .split at h
      .simp only[Option.some.injEq] at h;subst h;exact⟨wb, .inr ⟨rfl,_,rfl⟩⟩
      .cases h
     .cases h
    .cases h
   .cases h
  .cases h
 case store t p x=>
  simp only[fop] at h;split at h
  .rename_i zp F I e;refine⟨qr1 rfl I e h,?_⟩;unfold fstore at h;split at h
   .split at h
    .rename_i E hn;split at h
     .split at h
      .split at h
       .simp only[Option.some.injEq] at h;subst h;exact⟨w8, .inl ⟨rfl,wb⟩⟩
       .cases h
      .cases h
     .cases h
    .cases h
   .cases h
  .cases h
 case call c=>
  obtain⟨callee,args,argTypes⟩:=c;cases callee
  case builtin b=>
   simp only[fop] at h;split at h
   .split at h
    .rename_i x t M N;simp only[Ku] at h;obtain⟨F,e,h⟩:=h;split at h
     .rename_i L;have O:args= #[x]:=wK
      have Q:argTypes= #[t]:=wY
      subst O;subst Q;obtain⟨A,B,C,D⟩:=f_cap (o:=⟨n, .call {callee:= .builtin .cap,args:=#[x],argTypes:=#[t]},H,q,a,guard⟩) rfl e L h;refine⟨A,?_, .inl ⟨C,?_⟩⟩
      .rw[B];simp
      .rw[D];simp
     .cases h
    .cases h
   .split at h
    .rename_i x t M N;simp only[Ku] at h;obtain⟨F,e,h⟩:=h;split at h
     .rename_i L;have O:args= #[x]:=wK
      have Q:argTypes= #[t]:=wY
      subst O;subst Q;refine⟨f_len rfl e L h,?_⟩;unfold flen at h;split at h;all_goals first
       | (cases h;done)
       | (simp only[Option.some.injEq] at h;subst h;exact fits_read)
       | (split at h
          .rename_i E;simp only[Option.some.injEq] at h;subst h;exact⟨w8, .inl ⟨rfl,wb⟩⟩
          .cases h)
     .cases h
    .cases h
   .split at h
    .rename_i s x t1 t2 M N;split at h
     .rename_i zs F hs e;have O:args= #[s,x]:=wK
      have Q:argTypes= #[t1,t2]:=wY
      subst O;subst Q;unfold orE at h;split at h
      rotate_left
      .obtain⟨A,B,C,D⟩:=f_appz (o:=⟨n, .call {callee:= .builtin .append,args:=#[s,x],argTypes:=#[t1,t2]},H,q,a,guard⟩) rfl hs e h;exact⟨A,by rw[B];simp, .inr ⟨C,D⟩⟩
      rename_i h;cases ‹V _=V fr›;refine⟨f_app rfl hs e h,?_⟩;unfold fapp at h;split at h
      .split at h
       .rename_i J;split at h
        .split at h
         .simp only[Option.some.injEq] at h;subst h;exact⟨iapp_reads J, .inr ⟨rfl,_,rfl⟩⟩
         .cases h
        .split at h
         .simp only[Option.some.injEq] at h;subst h;exact⟨iapp_reads J, .inr ⟨rfl,_,rfl⟩⟩
         .cases h
        .split at h
         .rename_i rs Rs a1;split at h
          .simp only[Option.some.injEq] at h;subst h;refine⟨λp I=>?_, .inl ⟨rfl,?_⟩⟩
           .rcases List.mem_append.1 I with I | I
            .exact irows_reads a1 p I
            .exact iapp_reads J p I
           .have j:=a1;unfold qcF at j;simp only at j;split at j
            .split at j
             .simp only[Option.some.injEq,Prod.mk.injEq] at j;rw[<-j.2];simp only[Kj,Kk,or_false,forall_eq];exact⟨_,List.mem_append.2 (.inl (Kc))⟩
             .cases j
            .cases j
          .cases h
         .cases h
        .cases h
       .cases h
      .cases h
     .cases h
    .cases h
   .split at h
    .rename_i s x t1 ts M N;split at h
     .rename_i zs F hs e;have O:args= #[s,x]:=wK
      have Q:argTypes[0]? =V t1:=by rw[<-Array.getElem?_toList,N];rfl
      subst O;refine⟨f_copy rfl Q hs e h,?_⟩;unfold qgP at h;split at h
      .split at h
       .split at h
        .rename_i E J;split at h
         .simp only[Option.some.injEq] at h;subst h;refine⟨λp I=>?_, .inl ⟨rfl,?_⟩⟩
          .rcases List.mem_cons.1 I with rfl | I
           .exact E
           .exact iapp_reads J p I
          .simp only[Kj,Kk,or_false,forall_eq];exact⟨_, .inl rfl⟩
         .cases h
        .cases h
       .cases h
      .cases h
     .cases h
    .cases h
   .split at h
    .rename_i x t M N;simp only[Ku] at h;obtain⟨F,e,h⟩:=h;have O:args= #[x]:=wK
     have Q:argTypes= #[t]:=wY
     subst O;subst Q;obtain⟨A,B,C,D⟩:=qrS (o:=⟨n, .call {callee:= .builtin .clear,args:=#[x],argTypes:=#[t]},H,q,a,guard⟩) rfl e h;exact⟨A,B, .inl ⟨C,D⟩⟩
    .cases h
   .simp only[Ku] at h;obtain⟨zs,g,h⟩:=h;refine⟨f_max (mx:=true) (args:=args.toList) rfl g h,?_⟩;unfold fmax at h;split at h
    .simp only[Kt] at h;obtain⟨x,_,rfl⟩:=h;exact fits_read
    .cases h
   .simp only[Ku] at h;obtain⟨zs,g,h⟩:=h;refine⟨f_max (mx:=false) (args:=args.toList) rfl g h,?_⟩;unfold fmax at h;split at h
    .simp only[Kt] at h;obtain⟨x,_,rfl⟩:=h;exact fits_read
    .cases h
   .cases h
  case value f=>
   simp only[fop] at h;obtain⟨args⟩:=args;obtain⟨A,B,C,D⟩:=f_callx (o:=⟨n, .call {callee:= .value f,args:=⟨args⟩,argTypes:=argTypes},H,q,a,guard⟩) rfl h;refine⟨A,?_, .inl ⟨C,?_⟩⟩
   .rw[B];simp
   .rw[D];simp
  all_goals(simp[fop] at h)
 all_goals(simp[fop] at h)
end Go.Idl
namespace Go.Idl
variable{P:Program}
def Wd(ro:Option Nat):Fence:= {Fence.wide with round:=ro}
def ndOp(o:Oper):Bool:=match o.op with
 | .defer _=>Z
 | _=>Y
def ndC:Code->Bool
 | .seq a b=>ndC a && ndC b
 | .cond _ a b=>ndC a && ndC b
 | .block _ c=>ndC c
 | .loop c=>ndC c
 | .region _ o _=>o.toList.all ndOp
 | .skip=>Y
 | .label _=>Y
 | .exit _=>Y
 | .goto _=>Y
 | .ret=>Y
 | _=>Z
def RoOk(ro:Option Nat)(b:Bool):Prop:=ro=U\/b=Y
def RoOk.l{ro a b}(h:RoOk ro (a && b)):RoOk ro a:=h.imp id λh=>by grind
def RoOk.r{ro a b}(h:RoOk ro (a && b)):RoOk ro b:=h.imp id λh=>by grind
def RoOk.mem{ro}{l:List Oper}{o}(h:RoOk ro (l.all ndOp))(a:o∈l):RoOk ro (ndOp o):=h.imp id λh=>List.all_eq_true.1 h o a
def RoOk.tl{ro l o}(h:RoOk ro ((o::l).all ndOp)):RoOk ro (l.all ndOp):=h.imp id λh=>by grind
def qsv{ro n a args w R}(h:Rows P a args w R):RowsIn (Wd ro) n P a args w R:=
 λc b _=>let ⟨v,d,r,s⟩:=h c b;⟨v,d,r,stepsIn_wide.2 s⟩
def qld{ro n f args w R}(h:Calls P f args w R):CallsIn (Wd ro) n P f args w R:=
 (callsIn_wide (n:=n)).2 h
def ql4{ro ρ o}(h:RoOk ro (ndOp o)):o.semAt ro ρ=execOp ρ o:=by
 rcases h with h | h
 .rw[h];rfl
 .refine Oper.semAt_eq ro ρ o λc a=>?_;simp_all[ndOp]
def oper_wd{ro n o a w K Q}(c:RoOk ro (ndOp o))(h:o.wp P a w K Q):o.wpIn (Wd ro) n P a w K Q:=by
 refine⟨λ_ _=>trivial,?_⟩;rw[show o.semAt (Wd ro).round a.eval=execOp a.eval o from ql4 c];unfold Oper.wp at h;generalize (execOp a.eval o).run P w=r at *;cases r with
 | ok x e=>
   cases x<;>simp[Oper.upon,Oper.uponIn] at h ⊢
   case value v=>omega
   case skip=>omega
   case defer d=>omega
   case enter f b=>exact⟨λh=>wu,qld h⟩
   case row row b=>exact⟨λh=>wu,qsv h⟩
 | halt x e=>cases x<;>simp[Oper.upon,Oper.uponIn] at h ⊢;omega
section
variable{ro:Option Nat}{ops:Array Oper}{Q:Exit->Act->World->Prop}{a:Act}{w:World}{rest:List Oper}{o:Oper}
def wpListW_step(c:RoOk ro (ndOp o))(h: ∀K:Act->World->Prop,(∀a w,wpListIn (Wd ro) 0 P ops Q rest a w->K a w)->
   if Region.wanted o (yielded ops a.tmps) then o.wp P a w K Q else K (a.put o.dst undef) w):wpListIn (Wd ro) 0 P ops Q (o::rest) a w:=
 wpListIn_step λK d=>by
  have h:=h K d;split
  .rename_i b;rw[if_pos b] at h;exact oper_wd c h
  .rename_i b;rw[if_neg b] at h;exact⟨λ_ _=>trivial,h⟩
def qkm{i K}(c: ∀o,ops[i]? =V o->RoOk ro (ndOp o))(h:match ops[i]? with
  | none=>K a w
  | some o=>if Region.wanted o (yielded ops a.tmps) then o.wp P a w K Q else K (a.put o.dst undef) w):wpOpIn (Wd ro) 0 P ops Q i K a w:=by
 unfold wpOpIn;split at h
 .grind
 .rename_i o e;simp[e];split
  .rename_i b;rw[if_pos b] at h;exact oper_wd (c o e) h
  .rename_i b;rw[if_neg b] at h;exact⟨λ_ _=>trivial,h⟩
end
def ncOp(o:Oper):Bool:=match o.op with
 | .call _=>Z
 | .nilCheck _=>Z
 | .pick .. =>Z
 | .recv .. =>Z
 | .select .. =>Z
 | .go _=>Z
 | .defer _=>Z
 | .send .. =>Z
 | _=>Y
def qoE{s:Sem Value}{w w' l f t a b}(e:(do let x <-s;pure (Next.value x)).run P w= .ok (.round l f t a b) w'):False:=by
 cases h:s.run P w with
 | ok x c=>simp_all
 | halt x c=>simp_all
def qoD{s w w' l f t a b}(e:(do s;pure Next.skip:Sem Next).run P w= .ok (.round l f t a b) w'):False:=by
 cases h:s.run P w with
 | ok x c=>simp_all
 | halt x c=>simp_all
def qq1{o:Oper}{ρ:Operand->Value}{w w':World}{l:Nat}{f:FuncId}{t:Array Value}{a b:Code}(h:ncOp o=Y)(e:(execOp ρ o).run P w= .ok (.round l f t a b) w'):False:=by
 unfold execOp at e;unfold ncOp at h;cases c:o.op<;>first
  | rfl
  | (simp only[c] at e;first | exact qoE e | exact qoD e | simp_all)
def wpList_of_wd{ops Q}: ∀(l a w),l.all ncOp=Y->wpListIn (Wd U) 0 P ops Q l a w->wpList P ops Q l a w
 | [],a,w,_,h=>h
 | o::r,a,w,g,h=>by
   simp only[List.all_cons,KI] at g;unfold wpListIn at h;unfold wpList;split at h
   .rename_i k;rw[if_pos k];refine .inl ?_;unfold Oper.wp;have b:=h.2;rw[show o.semAt (Wd U).round a.eval=execOp a.eval o from rfl] at b;cases m:(execOp a.eval o).run P w with
    | ok x j=>
      rw[m] at b;cases x<;>simp only[Oper.uponIn] at b ⊢
      case value v=>exact wpList_of_wd r _ _ g.2 b
      case skip=>exact wpList_of_wd r _ _ g.2 b
      case defer d=>exact wpList_of_wd r _ _ g.2 b
      case enter f i=>
       refine((callsIn_wide (n:=0 - 1)).1 b.2).mono λe j p=>?_;cases e with
       | returned v=>exact wpList_of_wd r _ _ g.2 p
       | panicked y=>omega
       | outgrown=>omega
      case row row i=>
       intro c q;obtain⟨v,j,u,s⟩:=b.2 c q (room_wide _);exact⟨v,j,wpList_of_wd r _ _ g.2 u,stepsIn_wide.1 s⟩
      case round l f t c d=>exact(qq1 g.1 m).elim
    | halt x j=>
      rw[m] at b;cases x<;>simp[Oper.upon,Oper.uponIn] at b ⊢;omega
   .rename_i k;rw[if_neg k];exact wpList_of_wd r _ _ g.2 h.2
end Go.Idl
namespace Go.Idl
variable{P:Program}{h0:IH}
def qcR(h0:IH)(M0:Mem)(Q:Exit->qab->Prop)(e:Exit)(a:Act)(w':World):Prop:=
 ∃M S,M.w=w'/\qaf M0 M/\SRel h0 S M a/\Q e S
def qbi(P:Program)(h0:IH)(c:Code)(S:qab)(Q:Exit->qab->Prop):Prop:=
 ∀b,HRel h0.nx h0.m b-> ∀M a,qaf b M->SRel h0 S M a-> ∀r,RoOk r (ndC c)->c.wpIn (Wd r) 0 P (qcR h0 b Q) a M.w
def IOps(P:Program)(h0:IH)(b:Array Oper)(l:List Oper)(S:qab)(Q:Exit->qab->Prop):Prop:=
 ∀c,HRel h0.nx h0.m c-> ∀M a,qaf c M->SRel h0 S M a-> ∀r,RoOk r (l.all ndOp)->wpListIn (Wd r) 0 P b (qcR h0 c Q) l a M.w
inductive IEnd where
 | ret (x:IV)
 | pan (chain:List PanicEntry)
def qbU(M:Mem):IEnd->Ending->Prop
 | .ret x,e=> ∃v,e= .returned v/\VRel M x v
 | .pan c,e=>e= .panicked c
def qa5(P:Program)(f:FuncId)(args:List IV)(h:IH)(Q:IEnd->Nat->List (Nat × IBlk)->Prop):Prop:=
 ∀(M:Mem) (b:List Value),HRel h.nx h.m M->b.length=args.length->(∀(i:Nat) (x:IV) (v:Value),args[i]? =V x->b[i]? =V v->VRel M x v)->
  Calls P f ⟨b⟩ M.w λe w=> ∃a n l r,a.w=w/\qaf M a/\HRel n (l++h.m) a/\qbU a r e/\Q r n l
def qa5.mono{f args h Q a}(b:qa5 P f args h Q)(c: ∀r nx l,Q r nx l->a r nx l):qa5 P f args h a:=by
 intro M v d g i;exact(b M v d g i).mono λe w ⟨j,n,k,r,m,o,p,q,s⟩=>⟨j,n,k,r,m,o,p,q,c _ _ _ s⟩
def qqU{a S Q}(h:Q .normal S):IOps P h0 a [] S Q:=
 λ_ _ M _ b c _ _=>wpListIn_nil ⟨M,S,rfl,b,c,h⟩
def qgq(a:Array Oper)(s:List (Nat × IV))(j:Nat):Option (Option Bool):=
 match(a[j]?).bind (·.dst) with
 | some d=>match look s d with
   | some (.p (.sc (.bool b)))=>V (V b)
   | some (.tup [])=>V U
   | _=>U
 | none=>U
def qko:Option Bool->Bool->Bool
 | some b,w=>b==w
 | none,_=>Z
def qam(a:Array Oper)(s:List (Nat × IV))(o:Oper):Option Bool:=
 match o.guard with
 | none=>V Y
 | some (j,w)=>(qgq a s j).map λb=>qko b w
def qbd{c S M a}(h:SRel h0 S M a){o b}(f:qam c S.s o=V b):Region.wanted o (yielded c a.tmps)=b:=by
 unfold qam at f;unfold Region.wanted;split at f
 .grind
 .rename_i j w g;simp at f;obtain⟨t,e,rfl⟩:=f;simp[g];unfold qgq at e;split at e
  .rename_i d n;split at e
   .rename_i p i;cases e;obtain⟨v,k,l⟩:=h.slot d _ i;have:=l.sc_inv;have m:yielded c a.tmps j=V p:=by
     simp_all[yielded]
    rw[m];rfl
   .rename_i i;cases e;obtain⟨v,k,l⟩:=h.slot d _ i;cases l with
    | tup s u q r=>
      have m:yielded c a.tmps j=U:=by
       simp_all[yielded]
      rw[m];rfl
   grind
  grind
def qhC{fr:FR}{nx m M}(c:HRel nx m M)(h:fr.fits (look m) nx):
  ∀b,(b < nx\/ ∃blk,(b,blk)∈fr.W)->b < nx+fr.F.length:=by
 intro b a;rcases a with a | ⟨blk,a⟩
 .omega
 .rcases h.new with ⟨f,d⟩ | ⟨f,blk,d⟩
  .obtain⟨g,e⟩:=d _ a;have:=h.reads _ e;rw[<-c.G b] at this;have:=c.A b (c.rel.dom b _ this);omega
  grind
def iops_op{d o r S Q fr}(m:qam d S.s o=V Y)
  (n:fop P (ev S.s) (look (S.l++h0.m)) S.nx d o.dst o.op=V fr) (q:qaC S o.dst=Y)
  (h:IOps P h0 d r (S.put o.dst fr.x (S.nx+fr.F.length) fr.W.reverse) Q):IOps P h0 d (o::r) S Q:=by
 intro t i M a u e w g;obtain⟨j,c⟩:=qet n;refine wpListW_step (g.mem (Kc ..)) λK x=>?_;rw[if_pos (qbd e m)];refine j M a e.heap.rel (λp A=>by rw[e.heap.G];exact c.reads p A) (λb f=>?_) (λy _ z B=>qaF e.slot B) K _ λv C s k D E=>?_
 .rcases c.new with ⟨l,_⟩ | ⟨l,_⟩
  .grind
  .rw[l] at f;simp at f;subst f;exact λf=>KA _ (e.heap.A _ f)
 .refine x _ _ (h t i C _ (u.trans s) (e.step s q E ?_) w g.tl);have:=e.heap.upd k D (S.nx+fr.F.length) (qhC e.heap c)
  grind
def qiE(M):VRel M (.tup []) undef:= .tup [] [] rfl (λi x v h=>by simp)
def iops_skip{b o r S Q}(f:qam b S.s o=V Z)(g:qaC S o.dst=Y)
  (h:IOps P h0 b r (S.put o.dst (.tup []) S.nx []) Q):IOps P h0 b (o::r) S Q:=by
 intro i d M a j e k c;refine wpListW_step (c.mem (Kc ..)) λK l=>?_;rw[qbd e f];exact l _ _ (h i d M _ j (e.step (.refl M) g (qiE M) e.heap) k c.tl)
def qao(ρ:Operand->Option IV)(f:Operand)(args:List Operand):Option (FuncId × List IV):=
 match ρ f,rlist ρ args with
 | some (.p (.sc (.func (.func n) ⟨[]⟩ ⟨[]⟩))),V z=>V (n,z)
 | some (.clo (.func n) first c),V z=>V (n,first++z++c)
 | _,_=>U
def fnOk(P:Program)(n:FuncId):Bool:=
 match P.funcs[n]? with
 | some f=>f.name != "runtime.NumGoroutine" && f.body.isSome
 | none=>Z
def qbZ{n}(h:fnOk P n=Y)(args w):(callFunc n args).run P w= .ok (.enter n args) w:=by
 unfold fnOk at h;cases a:P.funcs[n]? with
 | none=>grind
 | some f=>
   simp[a] at h;obtain⟨d,e⟩:=h;cases b:f.body with
   | none=>grind
   | some c=>simp[callFunc,a,d,b]
def qbM{M}{xs ys:List IV}{us vs:List Value}(c:us.length=xs.length)(d: ∀(i:Nat) (x v),xs[i]? =V x->us[i]? =V v->VRel M x v)
  (e: ∀(i:Nat) (x v),ys[i]? =V x->vs[i]? =V v->VRel M x v):
  ∀(i:Nat) (x v),(xs++ys)[i]? =V x->(us++vs)[i]? =V v->VRel M x v:=wg
def qqa{o:Oper}{f:Operand}{args:List Operand}{ts:Array TypeId}{n:FuncId}{zs:List IV}{S:qab}{M:Mem}{a:Act}(b:SRel h0 S M a)
  (r:o.op= .call {callee:= .value f,args:=⟨args⟩,argTypes:=ts}) (h:qao (ev S.s) f args=V (n,zs)) (s:fnOk P n=Y):
  ∃vs:List Value,(execOp a.eval o).run P M.w= .ok (.enter n ⟨vs⟩) M.w/\vs.length=zs.length/\ ∀(i:Nat) (x:IV) (v:Value),zs[i]? =V x->vs[i]? =V v->VRel M x v:=by
 unfold qao at h;split at h
 .rename_i u c d g;simp only[Option.some.injEq,Prod.mk.injEq] at h;obtain⟨rfl,rfl⟩:=h;have e:=(qaF b.slot d).sc_inv;obtain⟨l,j⟩:=qbt (M:=M) (a:=a) g λy _ z k=>qaF b.slot k;refine⟨args.map a.eval,?_,l,j⟩;simp only[execOp,r,resolve,e,Deferred.ofValue,KH,KG,KK,invoke];rw[qbZ s];simp
 .rename_i u first m c d g;simp only[Option.some.injEq,Prod.mk.injEq] at h;obtain⟨rfl,rfl⟩:=h;have t:=qaF b.slot d;obtain⟨l,j⟩:=qbt (M:=M) (a:=a) g λy _ z k=>qaF b.slot k;generalize w:a.eval f=q at t;cases t with
  | clo F first m A B p C D E=>
    refine⟨A++args.map a.eval++B,?_,wn,qbM wn (qbM p D j) E⟩;simp only[execOp,r,resolve,w,Deferred.ofValue,KH,KG,KK,invoke];rw[qbZ s];simp
 .cases h
def iops_call{c o r S Q f args ts n zs}
  (B:o.op= .call {callee:= .value f,args:=⟨args⟩,argTypes:=ts}) (C:qam c S.s o=V Y) (D:qao (ev S.s) f args=V (n,zs)) (E:fnOk P n=Y) (F:qaC S o.dst=Y)
  (h:qa5 P n zs ⟨S.nx,S.l++h0.m⟩ λe b l'=>match e with
   | .ret x=>IOps P h0 c r (S.put o.dst x b l') Q
   | .pan q=>Q (.panic q) {S with nx:=b,l:=l'++S.l}):IOps P h0 c (o::r) S Q:=by
 intro G k M a t d H g;refine wpListW_step (g.mem (Kc ..)) λK I=>?_;rw[if_pos (qbd d C)];obtain⟨J,j,L,m⟩:=qqa (P:=P) d B D E;unfold Oper.wp;rw[j];refine Calls.mono (h M J d.heap L m) λe W ⟨w,b,l',N,y,s,z,p,A⟩=>?_;cases N with
 | ret x=>
   obtain⟨v,rfl,m⟩:=p;subst y;exact I _ _ (A G k w _ (t.trans s) (d.step s F m wg) H g.tl)
 | pan q=>
   cases p;refine⟨w, {S with nx:=b,l:=l'++S.l},y,t.trans s,⟨wg,d.size,λi x O=>(by obtain⟨u,R,T⟩:=d.slot i x O;exact⟨u,R,T.step s⟩),d.defs.step s⟩,A⟩
def iops_panic{b o r S Q x t v}(g:o.op= .panic x)(i:qam b S.s o=V Y)
  (j:ev S.s x=V (.p (.sc (.iface t v)))) (h:Q (.panic [{v:= .iface t v,recovered:=false}]) S):IOps P h0 b (o::r) S Q:=by
 intro m k M a l d n f;refine wpListW_step (f.mem (Kc ..)) λK q=>?_;rw[if_pos (qbd d i)];have e:=(qaF d.slot j).sc_inv;unfold Oper.wp;have c:(execOp a.eval o).run P M.w= .halt (.panic (.iface t v)) M.w:=by
  simp_all[execOp,Instr.panic]
 rw[c];exact⟨M,S,rfl,l,d,h⟩
inductive It where
 | code (c:Code)
 | blk (id:Nat)
 | ops (all:Array Oper) (l:List Oper)
def after(P:Program)(h0:IH)(Q:Exit->qab->Prop):List It->Exit->qab->Prop
 | [],e,S=>Q e S
 | .blk id::k,e,S=>match e with
   | .exit i=>if i=id then after P h0 Q k .normal S else after P h0 Q k (.exit i) S
   | e=>after P h0 Q k e S
 | .code c::k,e,S=>match e with
   | .normal=>qbi P h0 c S λa b=>after P h0 Q k a b
   | e=>after P h0 Q k e S
 | .ops d l::k,e,S=>match e with
   | .normal=>IOps P h0 d l S λa b=>after P h0 Q k a b
   | e=>after P h0 Q k e S
def IRun(P:Program)(h0:IH)(k:List It)(S:qab)(Q:Exit->qab->Prop):Prop:=after P h0 Q k .normal S
section
variable{k:List It}{S:qab}{Q:Exit->qab->Prop}
def qbi.mono{c f}(h:qbi P h0 c S Q)(g: ∀e S,Q e S->f e S):qbi P h0 c S f:=
 λi b M a j l r d=>wpIn_mono (h i b M a j l r d) λ_ _ _ ⟨m,n,o,p,q,s⟩=>⟨m,n,o,p,q,g _ _ s⟩
def qhG{id}(h:IRun P h0 k S Q):IRun P h0 (.blk id::k) S Q:=h
def qju(h:IRun P h0 k S Q):IRun P h0 (.code .skip::k) S Q:=
 λ_ _ M _ a b _ _=>wpIn_skip ⟨M,S,rfl,a,b,h⟩
def qid{l}(h:IRun P h0 k S Q):IRun P h0 (.code (.label l)::k) S Q:=
 λ_ _ M _ a b _ _=>wpIn_label ⟨M,S,rfl,a,b,h⟩
def qlx{x y}(h:IRun P h0 (.code x:: .code y::k) S Q):IRun P h0 (.code (.seq x y)::k) S Q:=by
 intro n j M a o p r l;refine wpIn_seq (wpIn_mono (h n j M a o p r l.l) ?_);rintro e q w ⟨b,m,rfl,d,f,g⟩;cases e with
 | normal=>exact g n j b q d f r l.r
 | exit i=>exact⟨b,m,rfl,d,f,g⟩
 | goto i=>exact⟨b,m,rfl,d,f,g⟩
 | ret=>exact⟨b,m,rfl,d,f,g⟩
 | panic c=>exact⟨b,m,rfl,d,f,g⟩
 | outgrown=>exact⟨b,m,rfl,d,f,g⟩
def qic{id c}(h:IRun P h0 (.code c:: .blk id::k) S Q):IRun P h0 (.code (.block id c)::k) S Q:=by
 intro o l M a p q r m;refine wpIn_block (wpIn_mono (h o l M a p q r m) ?_);rintro e s w ⟨d,f,rfl,g,j,b⟩;cases e with
 | exit i=>
   simp[Exit.inBlock];simp[after] at b;split
   .rename_i n;rw[if_pos n] at b;exact⟨d,f,rfl,g,j,b⟩
   .rename_i n;rw[if_neg n] at b;exact⟨d,f,rfl,g,j,b⟩
 | normal=>exact⟨d,f,rfl,g,j,b⟩
 | goto i=>exact⟨d,f,rfl,g,j,b⟩
 | ret=>exact⟨d,f,rfl,g,j,b⟩
 | panic c=>exact⟨d,f,rfl,g,j,b⟩
 | outgrown=>exact⟨d,f,rfl,g,j,b⟩
def qgm{id}(h:after P h0 Q k (.exit id) S):IRun P h0 (.code (.exit id)::k) S Q:=
 λ_ _ M _ a b _ _=>wpIn_exit ⟨M,S,rfl,a,b,h⟩
def irun_ret(h:after P h0 Q k .ret S):IRun P h0 (.code .ret::k) S Q:=
 λ_ _ M _ a b _ _=>wpIn_ret ⟨M,S,rfl,a,b,h⟩
def irun_cond{c x y t}(i:ev S.s c=V (.p (.sc (.bool t))))(j:t=Y->IRun P h0 (.code x::k) S Q)(l:t=Z->IRun P h0 (.code y::k) S Q):
  IRun P h0 (.code (.cond c x y)::k) S Q:=
 λf h M a g d r b=>wpIn_cond_split ((qaF d.slot i).sc_inv) (λe=>j e f h M a g d r b.l) (λe=>l e f h M a g d r b.r)
def qhn{id o}(h:IRun P h0 (.ops o o.toList::k) S Q):IRun P h0 (.code (.region id o Z)::k) S Q:=
 λd b M a e f r c=>wpIn_region_list (h d b M a e f r c)
def qgn{a}(h:IRun P h0 k S Q):IRun P h0 (.ops a []::k) S Q:=qqU h
def after_ret: ∀ {k},Q .ret S->after P h0 Q k .ret S
 | [],h=>h
 | .blk _::k,h=>after_ret (k:=k) h
 | .code _::k,h=>after_ret (k:=k) h
 | .ops _ _::k,h=>after_ret (k:=k) h
def after_panic{c}: ∀ {k},Q (.panic c) S->after P h0 Q k (.panic c) S
 | [],h=>h
 | .blk _::k,h=>after_panic (k:=k) h
 | .code _::k,h=>after_panic (k:=k) h
 | .ops _ _::k,h=>after_panic (k:=k) h
end
end Go.Idl
namespace Go.Idl
variable{P:Program}{h0:IH}
mutual
def bel(n:Nat):IV->Prop
 | .p _=>True
 | .ref b _ _ _=>b < n
 | .ptr b _ _ _=>b < n
 | .mp b=>b < n
 | .clo _ f c=>bels n f/\bels n c
 | .agg cs=>bels n cs
 | .tup cs=>bels n cs
 | .dead=>True
def bels(n:Nat):List IV->Prop
 | []=>True
 | x::r=>bel n x/\bels n r
end
def qaP{n}: ∀ {l} {i:Nat} {x},bels n l->l[i]? =V x->bel n x
 | [],i,x,_,h=>by grind
 | y::l,0,x,a,h=>by cases h;exact a.1
 | y::l,i+1,x,a,h=>qaP a.2 wE
def bels_of{n}: ∀ {l},(∀(i:Nat) (x),l[i]? =V x->bel n x)->bels n l
 | [],_=>trivial
 | y::l,h=>⟨h 0 y rfl,bels_of λi x a=>h (i+1) x wg⟩
def qfd{n l}:bels n l↔ ∀x∈l,bel n x:=by induction l<;>simp_all[bels]
def blkBel(n:Nat):IBlk->Prop
 | .arr _ _ r=> ∀a∈r,bels n a
 | .mp b=> ∀e∈b,bel n e.2
 | .ob _ v=>bels n v
def VRel.toBel{M n}(e: ∀b,M.H.A b->b < n){x v}(h:VRel M x v):bel n x:=by
 induction h with
 | p x v h=>trivial
 | ref b g o m v c l h=>exact e b c
 | ptr b g r j v c l h=>exact e b c
 | mp b v c l h=>exact e b c
 | clo A first q B C s t D E u w=>
   refine⟨bels_of λi x d=>?_,bels_of λi x d=>?_⟩
   .have a:=qad d;rw[<-s] at a;exact u i x _ d (Ka a)
   .have a:=qad d;rw[<-t] at a;exact w i x _ d (Ka a)
 | agg y z f F r k=>
   refine bels_of λi x d=>?_;have a:=qad d;rw[<-f] at a;exact k i x _ d (Ka a)
 | tup y z f r k=>
   refine bels_of λi x d=>?_;have a:=qad d;rw[<-f] at a;exact k i x _ d (Ka a)
 | dead v=>trivial
def BRel.toBel{M n}(q: ∀b,M.H.A b->b < n){b d}(h:BRel M b d):blkBel n d:=by
 cases d with
 | arr E g z=>
   intro r a;obtain⟨i,s,e⟩:=Ke a;refine bels_of λj x m=>?_;cases f:M.β b with
   | none=>have:=h.2.1 f;grind
   | some t=>
     obtain⟨c,o,k⟩:=t;obtain⟨F,G,_,_,_,_,A⟩:=h.2.2 c o k f;obtain⟨v,_,_,u⟩:=A i r j x wg m;exact u.toBel q
 | mp H=>
   intro p B;obtain⟨i,s,e⟩:=Ke B;obtain⟨c,o,k,_,C,w,_,_,y⟩:=h;obtain⟨I,_,_,u⟩:=y i p.1 p.2 wg;exact u.toBel q
 | ob k J=>
   obtain⟨_,_,_,_,ob,K,_,_,y,D⟩:=h;refine bels_of λi x m=>?_;have l:=qad m;rw[<-y] at l;exact(D i x _ m (Ka l)).toBel q
inductive Fz(G:Nat->Option IBlk)(ids:List Nat):IV->IV->Prop where
 | refl (x:IV):Fz G ids x x
 | ref (b g off len sz:Nat) (rows:List (List IV)) (prows:List (List PV)) (hb:G b=V (.arr sz g rows)) (hi:b∈ids)
   (hp:(rows.drop off).take len=prows.map (·.map .p)):Fz G ids (.ref b g off len) (.p (.imm sz prows))
 | ptr (b g r j sz:Nat) (rows:List (List IV)) (row:List IV) (cells:List PV) (hb:G b=V (.arr sz g rows)) (hi:b∈ids) (hr:rows[r]? =V row)
   (hp:row.drop j=cells.map .p):Fz G ids (.ptr b g r j) (.p (.rp cells))
 | agg (xs ys:List IV) (hl:ys.length=xs.length) (h: ∀(i:Nat) (x y:IV),xs[i]? =V x->ys[i]? =V y->Fz G ids x y):Fz G ids (.agg xs) (.agg ys)
 | tup (xs ys:List IV) (hl:ys.length=xs.length) (h: ∀(i:Nat) (x y:IV),xs[i]? =V x->ys[i]? =V y->Fz G ids x y):Fz G ids (.tup xs) (.tup ys)
 | clo (fn:Fn) (fs gs cs ds:List IV) (h1:gs.length=fs.length) (h2:ds.length=cs.length) (hf: ∀(i:Nat) (x y:IV),fs[i]? =V x->gs[i]? =V y->Fz G ids x y)
   (hc: ∀(i:Nat) (x y:IV),cs[i]? =V x->ds[i]? =V y->Fz G ids x y):Fz G ids (.clo fn fs cs) (.clo fn gs ds)
 | dead (x:IV):Fz G ids x .dead
 | nil (a:PV) (sz:Nat) (h:a= .emp\/a= .sc (.slice U 0 0)):Fz G ids (.p a) (.p (.imm sz []))
theorem Fz.bel{G ids n x y}(f:Fz G ids x y):bel n x->bel n y:=by
 induction f with
 | refl x=>simp
 | ref=>exact λ_=>trivial
 | ptr=>exact λ_=>trivial
 | agg c g j h d=>
   intro e;refine bels_of λi y a=>?_;have b:=qad a;exact d i _ y (Ka (show i < c.length by omega)) a (qaP e (Ka _))
 | tup c g j h d=>
   intro e;refine bels_of λi y a=>?_;have b:=qad a;exact d i _ y (Ka (show i < c.length by omega)) a (qaP e (Ka _))
 | clo r k s l t u v w z m o=>
   rintro⟨p,q⟩;refine⟨bels_of λi y a=>?_,bels_of λi y a=>?_⟩
   .have b:=qad a;exact m i _ y (Ka (show i < k.length by omega)) a (qaP p (Ka _))
   .have b:=qad a;exact o i _ y (Ka (show i < l.length by omega)) a (qaP q (Ka _))
 | dead x=>exact λ_=>trivial
 | nil=>exact λ_=>trivial
def FzB(G:Nat->Option IBlk)(ids:List Nat):IBlk->IBlk->Prop
 | .arr h g b, .arr s l r=>s=h/\l=g/\r.length=b.length/\ ∀(i:Nat) (c a:List IV),b[i]? =V c->r[i]? =V a->
   a.length=c.length/\ ∀(j:Nat) (x y:IV),c[j]? =V x->a[j]? =V y->Fz G ids x y
 | .mp f, .mp e=>e.length=f.length/\ ∀(i:Nat) (k d:Value) (x y:IV),f[i]? =V (k,x)->e[i]? =V (d,y)->d=k/\Fz G ids x y
 | .ob k m, .ob d v=>d=k/\v=m
 | _,_=>False
def FzB.refl{G ids}(b):FzB G ids b b:=by
 cases b with
 | arr s g r=>exact⟨rfl,rfl,rfl,λi e c h a=>by rw[h] at a;cases a;exact⟨rfl,λj x y f d=>by rw[f] at d;cases d;exact .refl x⟩⟩
 | mp l=>exact⟨rfl,λi k m x y h a=>by rw[h] at a;cases a;exact⟨rfl, .refl x⟩⟩
 | ob k v=>exact⟨rfl,rfl⟩
theorem FzB.bel{G ids n x y}(f:FzB G ids x y)(c:blkBel n x):blkBel n y:=by
 cases x with
 | arr E g a=>
   cases y with
   | mp o=>exact f.elim
   | ob k v=>exact f.elim
   | arr s q r=>
     obtain⟨_,_,F,w⟩:=f;intro b h;obtain⟨i,d,e⟩:=Ke h;have l:=Ka (show i < a.length by omega);obtain⟨H,z⟩:=w i _ b l wg;refine bels_of λj y t=>?_;have A:=qad t;have u:=Ka (show j < a[i].length by omega);exact(z j _ y u t).bel (qaP (c _ (Kl _)) u)
 | mp o=>
   cases y with
   | arr s q r=>exact f.elim
   | ob k v=>exact f.elim
   | mp m=>
     obtain⟨I,B⟩:=f;intro p C;obtain⟨i,d,e⟩:=Ke C;have l:=Ka (show i < o.length by omega);obtain⟨_,f⟩:=B i _ p.1 _ p.2 l wg;exact f.bel (c _ (Kl _))
 | ob k v=>
   cases y with
   | arr s q r=>exact f.elim
   | mp m=>exact f.elim
   | ob J D=>obtain⟨rfl,rfl⟩:=f;omega
def FzB.shape{G ids a b}(h:FzB G ids a b):b.sz=a.sz/\b.gen=a.gen/\b.len=a.len/\b.isMp=a.isMp:=by cases a<;>cases b<;>simp_all[FzB,IBlk.sz,IBlk.gen,IBlk.len,IBlk.isMp]
structure Less(M M':Mem)(n:Nat)(ids:List Nat):Prop where
 w:M'.w=M.w
 β:M'.β=M.β
 A: ∀b,b < n->M.H.A b->M'.H.A b
 G: ∀b blk',M'.H.G b=V blk'-> ∃blk,M.H.G b=V blk/\FzB M.H.G ids blk blk'
 ids: ∀b∈ids,M'.H.G b=U
 O:M'.H.O=M.H.O
def Less.own{M M' n ids}(h:Less M M' n ids){c}(d:M'.own c):M.own c:=by
 rcases d with d | ⟨b,e,o,k,f,g⟩
 .exact .inl (by rw[<-h.O];omega)
 obtain⟨a,i,_⟩:=h.G b e f;exact .inr ⟨b,a,o,k,i,by rw[<-h.β];omega⟩
def VRel.less{M M' n ids}(l:Less M M' n ids){x v}(h:VRel M x v)(o:bel n x):VRel M' x v:=by
 induction h with
 | p x v h=>exact .p x v (h.step (by rw[l.w];simp) λc _ G=>⟨by rw[l.w],λw=>G (l.own w)⟩)
 | ref b g y z v f e h=>
   refine .ref b g y z v (l.A b o f) e λk a=>?_;obtain⟨d,q,s⟩:=l.G b k a;obtain⟨t,u,A,_⟩:=s.shape;rw[l.β]
   grind
 | ptr b g r j v f e h=>
   refine .ptr b g r j v (l.A b o f) e λk a=>?_;obtain⟨d,q,s⟩:=l.G b k a;obtain⟨t,u,A,_⟩:=s.shape;rw[l.β]
   grind
 | mp b v f e h=>
   refine .mp b v (l.A b o f) e λk a=>?_;obtain⟨d,q,s⟩:=l.G b k a;obtain⟨t,u,A,H⟩:=s.shape;rw[l.β]
   grind
 | clo I first B J K L N S T O Q=>
   exact .clo I first B J K L N (λi x v m e=>O i x v m e (qaP o.1 m)) (λi x v m e=>Q i x v m e (qaP o.2 m))
 | agg C D E R r F=>exact .agg C D E R λi x v m e=>F i x v m e (qaP o m)
 | tup C D E r F=>exact .tup C D E λi x v m e=>F i x v m e (qaP o m)
 | dead v=>exact .dead v
def VRel.fz{M M':Mem}{n:Nat}{ids:List Nat}(Q:MRel M)(l:Less M M' n ids){x y:IV}(f:Fz M.H.G ids x y): ∀ {v:Value},VRel M x v->bel n y->VRel M' y v:=by
 induction f with
 | refl x=>exact λh m=>h.less l m
 | ref b g T a0 R G d m hi hp=>
   intro v h _;have S:=h.ref_inv m rfl;obtain⟨a,a1,rfl,h1,h2,h3,S⟩:=S;simp only[IBlk.len,IBlk.sz] at h2 h3 S;have W:d.length=a0:=by
    have:=congrArg List.length hp;simp only[List.length_take,List.length_drop,List.length_map] at this;omega
   have F:=Q.blk b _ m;subst W;rcases S with S | ⟨c,o,k,q,ha,h5⟩
   .have e:d= []:=Km wa;subst e;subst S;exact .p _ _ (.imm R [] a 0 0 0 (λ_ _=>undef) (Kw _) (Kz _) (λh=>absurd h wb) wb wb wb)
   .subst ha;obtain⟨X,ty,q1,q2,q3,q4,q5⟩:=F.2.2 c o k q;have H: ¬M'.own c:=by
     rintro(C | ⟨I,D,o',k',C,g2⟩)
     .exact Q.odis b _ c o k m q (by rw[<-l.O];exact C)
     obtain⟨J,g3,_⟩:=l.G I D C;have:=Q.inj I b J _ c o' k' o k g3 m (by rw[<-l.β];exact g2) q;subst this;rw[l.ids I hi] at C;cases C
    have t: ∀(i:Nat) (w:List PV),d[i]? =V w->G[T+i]? =V (w.map .p):=by
     intro i w E;have:(d.map (·.map IV.p))[i]? =V (w.map .p):=by rw[Kg,E];rfl
     rw[<-hp,List.getElem?_take] at this;split at this
     .rwa[Kh] at this
     .cases this
    refine .p _ _ (.mk_imm (c:=c) (o:=o+T * R) h1 (by unfold maxLen at *;omega) (λ_=>⟨rfl,wV,H⟩) (λi z E=>?_) λi z j x E hj=>?_)
    .have:=F.1 _ (Kb (t i z E));simpa using this
    .obtain⟨u,u1,u2,u3⟩:=q5 _ _ j (.p x) (t i z E) (by rw[Kg,hj];rfl);refine⟨u,?_,u2,?_⟩
     .rw[l.w,cell_of_row M.w c _ X ty (0,0) q1,<-u1];congr 1;rw[Nat.add_mul];omega
     .cases u3 with
      | p x v h=>exact h.step (by rw[l.w];exact Kw _) λc _ ho=>⟨by rw[l.w],λK=>ho (l.own K)⟩
 | ptr b g r j R G z L m hi t hp=>
   intro v A _;cases A with
   | ptr _ _ _ _ _ hA A hg=>
     obtain⟨c,o,n,q,rfl⟩:=(hg _ m).2 rfl;have F:=Q.blk b _ m;obtain⟨X,ty,q1,q2,q3,q4,q5⟩:=F.2.2 c o n q;have H: ¬M'.own c:=by
      rintro(C | ⟨I,D,o',k',C,g2⟩)
      .exact Q.odis b _ c o n m q (by rw[<-l.O];exact C)
      obtain⟨J,g3,_⟩:=l.G I D C;have:=Q.inj I b J _ c o' k' o n g3 m (by rw[<-l.β];exact g2) q;subst this;rw[l.ids I hi] at C;cases C
     refine .p _ _ (.mk_rp (c:=c) (o:=o+(r * R+j)) ⟨wV,H⟩ λk x hk=>?_);have B:z[j+k]? =V (.p x):=by
      have:(L.map IV.p)[k]? =V (.p x):=by rw[Kg,hk];rfl
      rw[<-hp,Kh] at this;exact this
     obtain⟨u,u1,u2,u3⟩:=q5 r z (j+k) (.p x) t B;refine⟨u,?_,u2,?_⟩
     .rw[l.w,cell_of_row M.w c _ X ty (0,0) q1,<-u1];congr 1;omega
     .cases u3 with
      | p x v h=>exact h.step (by rw[l.w];exact Kw _) λc _ ho=>⟨by rw[l.w],λK=>ho (l.own K)⟩
 | agg xs ys hl h ih=>
   intro v A m;obtain⟨vs,rfl,l1,l2,l3⟩:=A.agg_inv;refine .agg ys vs wa l2 λi y u s N=>?_;have O:=qad s;have B:=Ka (show i < xs.length by omega);exact ih i _ y B s (l3 i _ u B N) (qaP m s)
 | tup xs ys hl h ih=>
   intro v A m;obtain⟨vs,rfl,l1,l3⟩:=A.tup_inv;refine .tup ys vs wa λi y u s N=>?_;have O:=qad s;have B:=Ka (show i < xs.length by omega);exact ih i _ y B s (l3 i _ u B N) (qaP m s)
 | clo fn fs gs X ds h1 h2 hf hc i1 i2=>
   intro v A m;obtain⟨b1,b2⟩:=m;cases A with
   | clo _ _ _ vf vc l1 l2 rf rc=>
     refine .clo fn gs ds vf vc wa wa (λi y u s N=>?_) (λi y u s N=>?_)
     .have O:=qad s;have B:=Ka (show i < fs.length by omega);exact i1 i _ y B s (rf i _ u B N) (qaP b1 s)
     .have O:=qad s;have B:=Ka (show i < X.length by omega);exact i2 i _ y B s (rc i _ u B N) (qaP b2 s)
 | dead x=>exact λ_ _=> .dead _
 | nil a R h=>
   intro v A _;have: ∃c,v= .slice c 0 0:=by
    cases A with
    | p _ _ A=>
      rcases h with rfl | rfl
      .cases A with
       | emp c=>exact⟨c,rfl⟩
      .cases A;exact⟨U,rfl⟩
   obtain⟨c,rfl⟩:=this;exact .p _ _ (.imm R [] c 0 0 0 (λ_ _=>undef) (Kw _) (Kz _) (λh=>absurd h wb) wb wb wb)
def Mem.cut(M:Mem)(nx:Nat)(m:List (Nat × IBlk)):Mem:=⟨M.w,⟨(· < nx),look m,M.H.O⟩,M.β⟩
structure qj9(M:Mem)(h0:IH)(nx:Nat)(m:List (Nat × IBlk))(ids:List Nat):Prop where
 low:h0.nx<=nx
 sub: ∀b blk',look m b=V blk'-> ∃blk,M.H.G b=V blk/\FzB M.H.G ids blk blk'/\b < nx/\blkBel nx blk'
 ids: ∀b∈ids,look m b=U
def qj9.less{M nx m ids}(h:qj9 M h0 nx m ids):Less M (M.cut nx m) nx ids:=
 ⟨rfl,rfl,λ_ c _=>c,λb a c=>(by obtain⟨d,g,e,_⟩:=h.sub b a c;grind),h.ids,rfl⟩
def qrN{M0 M:Mem}(Q:HRel h0.nx h0.m M0)(A:qaf M0 M)(D:MRel M){nx:Nat}{m:List (Nat × IBlk)}{ids:List Nat}(h:qj9 M h0 nx m ids):
  qaf M0 (M.cut nx m)/\HRel nx m (M.cut nx m):=by
 have l:=h.less;refine⟨⟨A.os,A.tape,A.output,A.size,λc E ho=>?_,λb z=>?_,λb a hA z=>?_,A.oeq,A.ofix⟩,⟨⟨?_,?_,?_,D.olt,λb d c o k F I=>?_⟩,λ_ z=>z,λb=>rfl⟩⟩
 .obtain⟨e,o1⟩:=A.keep c E ho;exact⟨e,λR=>o1 (l.own R)⟩
 .exact Kx (Q.A b z) h.low
 .obtain⟨d,G,t,_⟩:=h.sub b a z;obtain⟨s1,s2,s3,s4⟩:=t.shape;obtain⟨u,k1,k2,k3,k4,k5⟩:=A.comp b d hA G;refine⟨u,k1,s1.trans k2,s4.trans k3,by rw[s2];exact k4,λe=>?_⟩;rw[s2] at e;exact⟨(k5 e).1,s3.trans (k5 e).2⟩
 .exact λb d z=>(by obtain⟨_,_,_,g,_⟩:=h.sub b d z;exact g)
 .intro b a z;obtain⟨d,G,t,g3,S⟩:=h.sub b a z;have T:=D.blk b d G;cases d with
  | arr sz g B=>
    cases a with
    | mp es=>exact t.elim
    | ob k vs=>exact t.elim
    | arr J g' q=>
      obtain⟨rfl,rfl,e3,e4⟩:=t;obtain⟨r1,r2,r3⟩:=T;have w: ∀(i:Nat) (r:List IV),q[i]? =V r-> ∃p,B[i]? =V p/\r.length=p.length/\ ∀(j:Nat) (x y:IV),p[j]? =V x->r[j]? =V y->Fz M.H.G ids x y:=by
       grind
      refine⟨λr L=>?_,λhn=>?_,λc o k E=>?_⟩
      .obtain⟨i,s,e⟩:=Ke L;obtain⟨p,F,I,_⟩:=w i r (by rw[Ka s,e]);rw[I];exact r1 p (Kb F)
      .have:=r2 hn;subst this;exact Km (by simpa using e3)
      .obtain⟨cs,ty,N,W,O,X,q5⟩:=r3 c o k E;refine⟨cs,ty,N,wa,O,X,λi r j y s hj=>?_⟩;obtain⟨p,F,I,h3⟩:=w i r s;have K:=qad hj;have C:=Ka (show j < p.length by omega);obtain⟨v,v1,v2,v3⟩:=q5 i p j _ F C;exact⟨v,v1,v2,v3.fz D l (h3 j _ y C hj) (qaP (S r (Kb s)) hj)⟩
  | mp es=>
    cases a with
    | arr J g' q=>exact t.elim
    | ob k vs=>exact t.elim
    | mp a0=>
      obtain⟨e1,e2⟩:=t;obtain⟨c,o,k,E,a1,H,N,W,O⟩:=T;refine⟨c,o,k,E,a1,H,N,⟨wa,wa⟩,λi a2 y s=>?_⟩;have K:=qad s;have C:=Ka (show i < es.length by omega);obtain⟨rfl,f⟩:=e2 i _ a2 _ y C s;obtain⟨en,n1,n2,n3⟩:=O i _ _ C;exact⟨en,n1,n2,n3.fz D l f (S (_,y) (Kb s))⟩
  | ob k vs=>
    cases a with
    | arr J g' q=>exact t.elim
    | mp a0=>exact t.elim
    | ob k' a3=>
      obtain⟨rfl,rfl⟩:=t;obtain⟨c,o,n,E,ob,us,N,W,O,X⟩:=T;exact⟨c,o,n,E,ob,us,N,W,O,λi x v s hv=>(X i x v s hv).fz D l (.refl x) (qaP S s)⟩
 .intro b b' d a c o k o' k' F I;obtain⟨x1,G,_⟩:=h.sub b d F;obtain⟨x2,t,_⟩:=h.sub b' a I;exact D.inj b b' x1 x2 c o k o' k' G t
 .obtain⟨u,G,_⟩:=h.sub b d F;exact D.odis b u c o k G I
structure Sub(h0:IH)(ids:List Nat)(S S':qab):Prop where
 n:S'.n=S.n
 d:S'.d=S.d
 dbel:S.d= []\/S'.nx=S.nx
 low:h0.nx<=S'.nx
 top:S'.nx<=S.nx
 slots: ∀p∈S'.s,∃x,look S.s p.1=V x/\Fz (look (S.l++h0.m)) ids x p.2/\(S'.nx=S.nx\/bel S'.nx p.2)
 blks: ∀p∈S'.l,∃blk,look (S.l++h0.m) p.1=V blk/\FzB (look (S.l++h0.m)) ids blk p.2/\(S'.nx=S.nx\/p.1 < S'.nx/\blkBel S'.nx p.2)
 others: ∀p∈S.l,h0.nx<=p.1\/ ∃blk,(p.1,blk)∈S'.l
 gone: ∀b∈ids,h0.nx<=b/\ ∀p∈S'.l,p.1≠b
def look_of_keys{m l b}{a:IBlk}(h:look (l++m) b=V a):(∃x,look l b=V x/\x=a)\/(look l b=U/\look m b=V a):=by grind[qae]
def bel_mono{n a}(k:n<=a)(x):bel n x->bel a x:=by
 apply IV.rec (motive_1:=λx=>bel n x->bel a x) (motive_2:=λl=>bels n l->bels a l)
 .intro x _;trivial
 .grind[bel]
 .grind[bel]
 .grind[bel]
 .intro q f c i d h;exact⟨i h.1,d h.2⟩
 .intro p e h;exact e h
 .intro p e h;exact e h
 .intro _;trivial
 .intro _;trivial
 .intro x l i d h;exact⟨i h.1,d h.2⟩
def qmM{n f}(a:n<=f){b}(h:blkBel n b):blkBel f b:=by
 cases b with
 | arr s g i=>intro r c;exact qfd.2 λx d=>bel_mono a x (qfd.1 (h r c) x d)
 | mp l=>intro e j;exact bel_mono a _ (h e j)
 | ob k v=>exact qfd.2 λx d=>bel_mono a x (qfd.1 h x d)
def qcg{ids:List Nat}{S S':qab}(h:Sub h0 ids S S'){M0 M:Mem}{a:Act}(g:HRel h0.nx h0.m M0)(N:qaf M0 M)(n:SRel h0 S M a):
  ∃M',M'.w=M.w/\qaf M0 M'/\SRel h0 S' M' a/\ ∀x y v,VRel M x v->Fz (look (S.l++h0.m)) ids x y->(S'.nx=S.nx\/bel S'.nx y)->VRel M' y v:=by
 have F: ∀b,M.H.A b->b < S.nx:=λb j=>n.heap.A b j
 have u: ∀b,M0.H.A b->b < h0.nx:=λb j=>g.A b j
 have w:look (S.l++h0.m)=M.H.G:=by funext b;rw[n.heap.G]
 have o: ∀b,h0.nx<=b->look h0.m b=U:=by
  intro b j;cases s:look h0.m b with
  | none=>rfl
  | some c=>
    have p:M0.H.G b=V c:=by rw[g.G];exact s
    have:=u b (g.rel.dom b c p);omega
 have l:qj9 M h0 S'.nx (S'.l++h0.m) ids:=by
  refine⟨h.low,λb c j=>?_,λb j=>?_⟩
  .rcases look_of_keys j with ⟨x,O,rfl⟩ | ⟨Q,J⟩
   .obtain⟨B,q,t,m⟩:=h.blks (b,x) (look_mem O);rw[w] at q t;refine⟨B,q,t,?_⟩;rcases m with m | m
    .rw[m];exact⟨F b (n.heap.rel.dom b _ q),t.bel ((n.heap.rel.blk b _ q).toBel F)⟩
    .exact m
   .have p:M0.H.G b=V c:=by rw[g.G];exact J
    have G:=u b (g.rel.dom b c p);have s:look (S.l++h0.m) b=V c:=by
     rw[qae];cases s:look S.l b with
     | none=>exact J
     | some y=>
       exfalso;rcases h.others (b,y) (look_mem s) with H | ⟨K,H⟩
       .simp only at H;omega
       .exact look_none Q _ H rfl
    rw[w] at s;exact⟨c,s, .refl c,Kx G h.low,qmM h.low ((g.rel.blk b c p).toBel u)⟩
  .obtain⟨q,t⟩:=h.gone b j;rw[qae];cases s:look S'.l b with
   | some y=>exact absurd rfl (t _ (look_mem s))
   | none=>exact o b q
 obtain⟨q,t⟩:=qrN g N n.heap.rel l;have m: ∀x y v,VRel M x v->Fz (look (S.l++h0.m)) ids x y->(S'.nx=S.nx\/bel S'.nx y)->VRel (M.cut S'.nx (S'.l++h0.m)) y v:=by
  intro x y v z f j;rw[w] at f;refine z.fz n.heap.rel l.less f ?_;rcases j with j | j
  .rw[j];exact f.bel (z.toBel F)
  .exact j
 refine⟨M.cut S'.nx (S'.l++h0.m),rfl,q,⟨t,by rw[h.n];exact n.size,λi y C=>?_,?_⟩,m⟩
 .obtain⟨x,R,T,W⟩:=h.slots (i,y) (look_mem C);obtain⟨v,X,v2⟩:=n.slot i x R;exact⟨v,X,m x y v v2 T W⟩
 .rw[h.d];rcases h.dbel with E | E
  .have:=n.defs;rw[E] at this ⊢;cases I:a.defers with
   | nil=>trivial
   | cons d A=>rw[I] at this;exact this.elim
  .have k:=n.defs;clear l q t;generalize a.defers=A at k;generalize S.d=L at k;induction L generalizing A with
   | nil=>cases A<;>first | trivial | exact k.elim
   | cons x L ih=>
     cases A with
     | nil=>exact k.elim
     | cons d A=>
       refine⟨?_,ih A k.2⟩;have r:=k.1;unfold DRel at r ⊢;split at r
       .obtain⟨b,D,e1,e2,e3⟩:=r;exact⟨b,D,e1,e2,m _ _ _ e3 (.refl _) (.inl E)⟩
       .obtain⟨vc,va,e,l1,l2,r1,r2⟩:=r.ex;exact⟨vc,va,e,l1,l2,λi y v C z=>m y y v (r1 i y v C z) (.refl y) (.inl E),λi y v C z=>m y y v (r2 i y v C z) (.refl y) (.inl E)⟩
def qbi.weak{c ids S S' Q}(e:Sub h0 ids S S')(h:qbi P h0 c S' Q):qbi P h0 c S Q:=by
 intro f b M a d g;obtain⟨i,j,k,l,_⟩:=qcg e b d g;rw[<-j];exact h f b i a k l
def IOps.weak{b l ids S S' Q}(e:Sub h0 ids S S')(h:IOps P h0 b l S' Q):IOps P h0 b l S Q:=by
 intro f c M a d g;obtain⟨i,j,k,m,_⟩:=qcg e c d g;rw[<-j];exact h f c i a k m
def qjt{ι:Type}{c k S Q}(q:ι->qab)(g:ι->Nat)(r)(s: ∃ids,Sub h0 ids S (q r))
  (z: ∀i,IRun P h0 [.code c] (q i) λe S'=>match e with
   | .normal=> ∃j ids,g j < g i/\Sub h0 ids S' (q j)
   | e=>after P h0 Q k e S'):IRun P h0 (.code (.loop c)::k) S Q:=by
 obtain⟨ids,s⟩:=s;refine qbi.weak s ?_;intro y m M a t h A u;refine wpIn_loop_ghost (λn a w=> ∃i M,g i=n/\M.w=w/\qaf y M/\SRel h0 (q i) M a) (g r) ⟨r,M,rfl,rfl,t,h⟩ ?_;rintro n a w ⟨i,M,rfl,rfl,t,h⟩;refine wpIn_mono (z i y m M a t h A u) ?_;rintro e E F ⟨o,S',rfl,b,d,f⟩;cases e with
 | normal=>
   obtain⟨j,ids,v,p⟩:=f;obtain⟨x,B,C,D,_⟩:=qcg p m b d;exact⟨g j,v,j,x,rfl,B,C,D⟩
 | exit id=>exact⟨o,S',rfl,b,d,f⟩
 | goto l=>exact⟨o,S',rfl,b,d,f⟩
 | ret=>exact⟨o,S',rfl,b,d,f⟩
 | panic G=>exact⟨o,S',rfl,b,d,f⟩
 | outgrown=>exact⟨o,S',rfl,b,d,f⟩
def qgo{k ids S S' Q}(a:Sub h0 ids S S')(b:match k with | []=>False | .blk _::_=>False | _=>True)(h:IRun P h0 k S' Q):IRun P h0 k S Q:=by
 cases k with
 | nil=>grind
 | cons x k=>
   cases x with
   | code c=>exact qbi.weak a h
   | blk id=>grind
   | ops d l=>exact IOps.weak a h
def qke(P:Program)(S:qab)(m:List (Nat × IBlk)):ResultVar->Option IV
 | .tmp t=>look S.s t
 | .cell p t=>match look S.s p with
   | some (.ptr b g r j)=>match look m b with
     | some (.arr _ d a)=>if g=d then match a[r]? with
       | some c=>qew P t (c.drop j)
       | none=>U
       else U
     | _=>U
   | _=>U
def qgV(P:Program)(S:qab)(m:List (Nat × IBlk)):List ResultVar->Option (List IV)
 | []=>V []
 | r::a=>match qke P S m r,qgV P S m a with
   | some x,V b=>V (x::b)
   | _,_=>U
def ires(P:Program)(S:qab)(m:List (Nat × IBlk))(rs:List ResultVar):Option IV:=
 match qgV P S m rs with
 | some [x]=>V x
 | some a=>V (.tup a)
 | none=>U
end Go.Idl
namespace Go.Idl
variable{P:Program}{h0:IH}
def enum:Nat->List IV->List (Nat × IV)
 | _, []=> []
 | i,x::r=>(i,x)::enum (i+1) r
def qdJ: ∀(l i k x),look (enum i l) k=V x->i<=k/\l[k - i]? =V x
 | [],i,k,x,h=>by cases h
 | y::r,i,k,x,h=>by
   simp[enum,look] at h;split at h
   .grind
   .obtain⟨b,a⟩:=qdJ r (i+1) k x h
    grind
def start(n:Nat)(args:List IV)(h:IH):qab:= {n,s:=enum 0 args,d:= [],nx:=h.nx,l:= []}
structure qcD(h:IH)(ids:List Nat)(S:qab)(x y:IV)(nx':Nat)(l':List (Nat × IBlk)):Prop where
 sub:Sub h ids S {S with s:= [],nx:=nx',l:=l'}
 fz:Fz (look (S.l++h.m)) ids x y
 bel:nx'=S.nx\/bel nx' y
inductive qe9(P:Program)(fn:Func)(h:IH)(Q:IEnd->Nat->List (Nat × IBlk)->Prop):Exit->qab->Prop where
 | norm (S:qab) (x y:IV) (ids:List Nat) (nx':Nat) (l':List (Nat × IBlk)) (hd:S.d= []) (hx:ires P S (S.l++h.m) fn.results.toList=V x)
   (hl:qcD h ids S x y nx' l') (hq:Q (.ret y) nx' l'):qe9 P fn h Q .normal S
 | ret (S:qab) (x y:IV) (ids:List Nat) (nx':Nat) (l':List (Nat × IBlk)) (hd:S.d= []) (hx:ires P S (S.l++h.m) fn.results.toList=V x)
   (hl:qcD h ids S x y nx' l') (hq:Q (.ret y) nx' l'):qe9 P fn h Q .ret S
 | pan (S:qab) (ch:List PanicEntry) (ids:List Nat) (nx':Nat) (l':List (Nat × IBlk)) (hd:S.d= []) (hl:Sub h ids S {S with s:= [],nx:=nx',l:=l'})
   (hq:Q (.pan ch) nx' l'):qe9 P fn h Q (.panic ch) S
def qg7(tmps:Array Value):ResultVar->Sem Value
 | .tmp t=>pure (tmps.getD t undef)
 | .cell p t=>do loadVar t (<-asAddr (tmps.getD p undef))
def qoP(fn tmps):results fn tmps=(do let vs <-fn.results.mapM (qg7 tmps);pure (if h:vs.size=1 then vs[0] else .tuple vs)):=wv
def qqb{S}{M:Mem}{a:Act}(i:SRel h0 S M a){r}{x:IV}(h:qke P S (S.l++h0.m) r=V x):
  ∃v,(qg7 a.tmps r).run P M.w= .ok v M.w/\VRel M x v:=by
 cases r with
 | tmp t=>
   obtain⟨v,l,m⟩:=i.slot t x h;exact⟨v,by simp[qg7,l],m⟩
 | cell p t=>
   simp only[qke] at h;split at h
   .rename_i b g r j z;split at h
    .rename_i s H d A;split at h
     .rename_i B;subst B;split at h
      .rename_i C e;obtain⟨v,l,m⟩:=i.slot p _ z;have f:M.H.G b=V (.arr s g d):=by rw[i.heap.G];omega
       obtain⟨c,D,n,E,w⟩:=m.ptr_inv f rfl;obtain⟨u,o,q⟩:=qhI (P:=P) (M:=M) h c (D+(r * s+j)) (λk F y=>by
        rw[Kh] at y;obtain⟨u,o,q,G⟩:=(i.heap.rel.blk b _ f).row e E (j+k) F y
        grind)
       simp_all[IBlk.sz,qg7,asAddr,KG]
      simp_all
     simp_all
    simp_all
   simp_all
def qgI{S:qab}{M:Mem}{a:Act}(e:SRel h0 S M a): ∀ {rs:List ResultVar} {xs:List IV},qgV P S (S.l++h0.m) rs=V xs->
  ∃vs:List Value,(rs.mapM (qg7 a.tmps)).run P M.w= .ok vs M.w/\vs.length=xs.length/\ ∀(i:Nat) (x:IV) (v:Value),xs[i]? =V x->vs[i]? =V v->VRel M x v
 | [],xs,h=>by simp_all[qgV,Option.some.injEq]
 | r::rs,xs,h=>by
   unfold qgV at h;split at h
   .rename_i x f g b;simp only[Option.some.injEq] at h;subst h;obtain⟨v,j,k⟩:=qqb (P:=P) e g;obtain⟨vs,w,l,m⟩:=qgI e b;refine⟨v::vs,?_,wg,λi y u c d=>?_⟩
    .simp_all
    grind
   simp_all
def qfJ{S:qab}{M:Mem}{a:Act}(k:SRel h0 S M a){fn:Func}{x:IV}(h:ires P S (S.l++h0.m) fn.results.toList=V x):
  ∃v,(results fn a.tmps).run P M.w= .ok v M.w/\VRel M x v:=by
 have c: ∀b:List Value,(fn.results.toList.mapM (qg7 a.tmps)).run P M.w= .ok b M.w->
   (results fn a.tmps).run P M.w= .ok (if h:(⟨b⟩:Array Value).size=1 then(⟨b⟩:Array Value)[0] else .tuple ⟨b⟩) M.w:=by
  simp_all[qoP,KH,Array.mapM_eq_mapM_toList,Sem.run_map,KK,KG]
 unfold ires at h;split at h
 .rename_i y m;simp only[Option.some.injEq] at h;subst h;obtain⟨b,f,w,g⟩:=qgI (P:=P) k m
  match b,w with
  | [v],_=>
    refine⟨v,?_,g 0 y v rfl rfl⟩;rw[c _ f];rfl
 .rename_i l i j;simp only[Option.some.injEq] at h;subst h;obtain⟨b,f,w,g⟩:=qgI (P:=P) k j;refine⟨.tuple ⟨b⟩,?_, .tup l b w g⟩;rw[c _ f];have: ¬(⟨b⟩:Array Value).size=1:=by
   simp only[Kn,w];intro e
   match l,e with
   | [z],_=>exact i z rfl
  rw[dif_neg this]
 .cases h
def icall_of{f:FuncId}{fn:Func}{c:Code}{args:List IV}{h:IH}{Q:IEnd->Nat->List (Nat × IBlk)->Prop}(T:P.funcs[f]? =V fn)(W:fn.body=V c)(hn:args.length<=fn.ntmps)
  (X:qbi P h c (start fn.ntmps args h) (qe9 P fn h Q)):qa5 P f args h Q:=by
 intro M D E o hr;refine calls_of_wp T W (wp_mono (wpIn_wide.1 (X M E M {tmps:=(⟨D⟩:Array Value)++KF (fn.ntmps - (⟨D⟩:Array Value).size) undef,defers:= []} (.refl M) ⟨by simpa[start] using E,?_,λi x hi=>?_,trivial⟩ U (.inl rfl))) ?_)
 .simp[start,o];omega
 .obtain⟨_,F⟩:=qdJ args 0 i x hi;have G:=qad F;simp only[KB] at F G;refine⟨D[i]'wa,?_,hr i x _ F (Ka wa)⟩;simp only;rw[Array.getElem?_append];simp only[Kn];rw[if_pos wa];simp[Ka (show i < D.length by omega)]
 .rintro e z w' ⟨H,p,rfl,O,g,k⟩;have A:(e= .normal\/e= .ret)->z.defers= []/\ ∃v,(results fn z.tmps).run P H.w= .ok v H.w/\ ∃j n b r,j.w=H.w/\qaf M j/\HRel n (b++h.m) j/\qbU j r (.returned v)/\Q r n b:=by
   intro he;have I:p.d= []/\ ∃x,ires P p (p.l++h.m) fn.results.toList=V x/\ ∃a y n b,qcD h a p x y n b/\Q (.ret y) n b:=by
    rcases he with rfl | rfl
    .cases k with
     | norm S x y a n b m B o k=>exact⟨m,x,B,a,y,n,b,o,k⟩
    .cases k with
     | ret S x y a n b m B o k=>exact⟨m,x,B,a,y,n,b,o,k⟩
   obtain⟨m,x,B,a,y,n,b,q,t⟩:=I;obtain⟨v,v1,v2⟩:=qfJ (P:=P) g B;obtain⟨j,J,K,L,R⟩:=qcg q.sub E O g;have u:z.defers= []:=by
    have:=g.defs;rw[m] at this;cases w:z.defers with
    | nil=>rfl
    | cons d ds=>rw[w] at this;exact this.elim
   exact⟨u,v,v1,j,n,b, .ret y,J,K,L.heap,⟨v,rfl,R x y v v2 q.fz q.bel⟩,t⟩
  cases e with
  | normal=>exact A (.inl rfl)
  | ret=>exact A (.inr rfl)
  | panic N=>
    obtain⟨a,n,b,m,C,t⟩: ∃a n b,p.d= []/\Sub h a p {p with s:= [],nx:=n,l:=b}/\Q (.pan N) n b:=by
     cases k with
     | pan S N a n b m o k=>exact⟨a,n,b,m,o,k⟩
    obtain⟨j,J,K,L,R⟩:=qcg C E O g;have u:z.defers= []:=by
     have:=g.defs;rw[m] at this;cases w:z.defers with
     | nil=>rfl
     | cons d ds=>rw[w] at this;exact this.elim
    exact⟨u,j,n,b, .pan N,J,K,L.heap,rfl,t⟩
  | exit id=>cases k
  | goto l=>cases k
  | outgrown=>cases k
end Go.Idl
namespace Go.Idl
variable{P:Program}{h0:IH}
def qas{b:Type}(x:Option b)(f:b->Prop)(d:Prop):Prop:=
 match x with
 | some a=>f a
 | none=>d
theorem qaQ{b}(a:b)(f d):qas (V a) f d=f a:=rfl
def qeH{a}(f d):qas (U:Option a) f d=d:=rfl
def qbD(b:Bool)(x y:Prop):Prop:=if b then x else y
def qlN(x:Option IV)(f:Bool->Prop)(d:Prop):Prop:=
 match x with
 | some (.p (.sc (.bool t)))=>f t
 | _=>d
def putS(dst:Option Tmp)(x:IV)(s:List (Nat × IV)):List (Nat × IV):=
 match dst with
 | some d=>(d,x)::s
 | none=>s
def dOk(n:Nat):Option Tmp->Bool
 | some d=>decide (d < n)
 | none=>Y
def qbT(id:Nat):List It->Option (List It)
 | []=>U
 | .blk i::k=>if id=i then V k else qbT id k
 | .code _::k=>qbT id k
 | .ops _ _::k=>qbT id k
def after_exit{id Q S}: ∀ {k k'},qbT id k=V k'->IRun P h0 k' S Q->after P h0 Q k (.exit id) S
 | [],k',h,_=>by cases h
 | .blk _::k,k',h,b=>by
   simp[qbT] at h;simp[after];split
   .rename_i e;rw[if_pos e] at h;cases h;exact b
   .rename_i e;rw[if_neg e] at h;exact after_exit h b
 | .code c::k,k',h,b=>after_exit (k:=k) h b
 | .ops a l::k,k',h,b=>after_exit (k:=k) h b
def after_exit_none{id Q S}: ∀ {k},qbT id k=U->Q (.exit id) S->after P h0 Q k (.exit id) S
 | [],_,b=>b
 | .blk i::k,h,b=>by
   simp[qbT] at h;simp[after];split
   .grind
   .rename_i e;rw[if_neg e] at h;exact after_exit_none h b
 | .code c::k,h,b=>after_exit_none (k:=k) h b
 | .ops a l::k,h,b=>after_exit_none (k:=k) h b
def vc(P:Program)(h0:IH)(Q:Exit->qab->Prop):Nat->List It->qab->Prop
 | 0,k,S=>IRun P h0 k S Q
 | _+1, [],S=>Q .normal S
 | n+1, .blk _::k,S=>vc P h0 Q n k S
 | n+1, .code .skip::k,S=>vc P h0 Q n k S
 | n+1, .code (.label _)::k,S=>vc P h0 Q n k S
 | n+1, .code (.seq x y)::k,S=>vc P h0 Q n (.code x:: .code y::k) S
 | n+1, .code (.block id c)::k,S=>vc P h0 Q n (.code c:: .blk id::k) S
 | n+1, .code (.exit id)::k,S=>qas (qbT id k) (λj=>vc P h0 Q n j S) (Q (.exit id) S)
 | _+1, .code .ret::_,S=>Q .ret S
 | n+1, .code (.cond c x y)::k,S=>qlN (ev S.s c) (λt=>qbD t (vc P h0 Q n (.code x::k) S) (vc P h0 Q n (.code y::k) S)) (IRun P h0 (.code (.cond c x y)::k) S Q)
 | n+1, .code (.region _ h Z)::k,S=>vc P h0 Q n (.ops h h.toList::k) S
 | _+1, .code c::k,S=>IRun P h0 (.code c::k) S Q
 | n+1, .ops _ []::k,S=>vc P h0 Q n k S
 | n+1, .ops a (⟨d,o,i,p,e,U⟩::r)::k,S=>
   qas (fop P (ev S.s) (look (S.l++h0.m)) S.nx a d o)
    (λf=>if dOk S.n d then vc P h0 Q n (.ops a r::k) ⟨S.n,putS d f.x S.s,S.d,S.nx+f.F.length,f.W.reverse++S.l⟩ else False)
    (IRun P h0 (.ops a (⟨d,o,i,p,e,U⟩::r)::k) S Q)
 | n+1, .ops a (⟨d,o,i,p,e,V g⟩::r)::k,S=>
   qas (qam a S.s ⟨d,o,i,p,e,V g⟩)
    (λb=>qbD b
     (qas (fop P (ev S.s) (look (S.l++h0.m)) S.nx a d o)
      (λf=>if dOk S.n d then vc P h0 Q n (.ops a r::k) ⟨S.n,putS d f.x S.s,S.d,S.nx+f.F.length,f.W.reverse++S.l⟩ else False)
      (IRun P h0 (.ops a (⟨d,o,i,p,e,V g⟩::r)::k) S Q))
     (if dOk S.n d then vc P h0 Q n (.ops a r::k) ⟨S.n,putS d (.tup []) S.s,S.d,S.nx,S.l⟩ else False))
    (IRun P h0 (.ops a (⟨d,o,i,p,e,V g⟩::r)::k) S Q)
def qa6(S:qab)(dst x nx W):S.put dst x nx W=⟨S.n,putS dst x S.s,S.d,nx,W++S.l⟩:=wv
def vc_op{a o r k S Q n}(d:qam a S.s o=V Y)
  (i: ∀k S,vc P h0 Q n k S->IRun P h0 k S Q)
  (h:qas (fop P (ev S.s) (look (S.l++h0.m)) S.nx a o.dst o.op)
   (λfr=>if dOk S.n o.dst then vc P h0 Q n (.ops a r::k) ⟨S.n,putS o.dst fr.x S.s,S.d,S.nx+fr.F.length,fr.W.reverse++S.l⟩ else False)
   (IRun P h0 (.ops a (o::r)::k) S Q)):IRun P h0 (.ops a (o::r)::k) S Q:=by
 cases b:fop P (ev S.s) (look (S.l++h0.m)) S.nx a o.dst o.op with
 | none=>rw[b] at h;exact h
 | some fr=>
   rw[b,qaQ] at h;split at h
   .have c:qaC S o.dst=Y:=by cases f:o.dst<;>simp_all[dOk,qaC]
    have:=i _ _ h;exact iops_op d b c (by exact this)
   grind
def vc_sound(Q:Exit->qab->Prop): ∀(n:Nat) (k:List It) (S:qab),vc P h0 Q n k S->IRun P h0 k S Q:=by
 intro n;induction n with
 | zero=>intro k S h;cases k<;>exact h
 | succ n i=>
   intro k S h;cases k with
   | nil=>exact h
   | cons x k=>
     cases x with
     | blk id=>exact qhG (i _ _ h)
     | code c=>
       cases c with
       | skip=>exact qju (i _ _ h)
       | label l=>exact qid (i _ _ h)
       | seq x y=>exact qlx (i _ _ h)
       | block id c=>exact qic (i _ _ h)
       | exit id=>
         simp only[vc] at h;cases m:qbT id k with
         | none=>rw[m,qeH] at h;exact qgm (after_exit_none m h)
         | some D=>rw[m,qaQ] at h;exact qgm (after_exit m (i _ _ h))
       | ret=>exact irun_ret (after_ret h)
       | cond c x y=>
         simp only[vc,qlN] at h;split at h
         .rename_i t A;refine irun_cond A (λe=>?_) (λe=>?_)
          .subst e;exact i _ _ h
          .subst e;exact i _ _ h
         .exact h
       | region id ops d=>
         cases d with
         | false=>exact qhn (i _ _ h)
         | true=>exact h
       | loop c=>exact h
       | rangeFunc f p a b=>exact h
       | scope c=>exact h
       | goto l=>exact h
       | refuse w=>exact h
     | ops s l=>
       cases l with
       | nil=>exact qgn (i _ _ h)
       | cons o r=>
         obtain⟨j,B,C,u,v,g⟩:=o;cases g with
         | none=>exact vc_op rfl i h
         | some g=>
           simp only[vc] at h;cases q:qam s S.s ⟨j,B,C,u,v,V g⟩ with
           | none=>rw[q,qeH] at h;exact h
           | some b=>
             rw[q,qaQ] at h;cases b with
             | true=>exact vc_op q i h
             | false=>
               simp only[qbD,KJ,if_false] at h;split at h
               .rename_i E;have z:qaC S j=Y:=by cases j<;>simp_all[dOk,qaC]
                exact iops_skip q z (by rw[qa6];exact i _ _ h)
               .exact h.elim
end Go.Idl
namespace Go.Idl
section
variable{P:Program}{h0:IH}{Q:Exit->qab->Prop}{n:Nat}{k:List It}{S:qab}
@[go_sem ↓] def vc_nil:vc P h0 Q (n+1) [] S=Q .normal S:=(rfl)
@[go_sem ↓] def vc_blk{id}:vc P h0 Q (n+1) (.blk id::k) S=vc P h0 Q n k S:=(rfl)
@[go_sem ↓] def vc_skip:vc P h0 Q (n+1) (.code .skip::k) S=vc P h0 Q n k S:=(rfl)
@[go_sem ↓] def vc_seq{x y}:vc P h0 Q (n+1) (.code (.seq x y)::k) S=vc P h0 Q n (.code x:: .code y::k) S:=(rfl)
@[go_sem ↓] def vc_block{id c}:vc P h0 Q (n+1) (.code (.block id c)::k) S=vc P h0 Q n (.code c:: .blk id::k) S:=(rfl)
def qen(P:Program)(h0:IH)(Q:Exit->qab->Prop)(n id:Nat)(S:qab)(x:Option (List It)):Prop:=qas x (λa=>vc P h0 Q n a S) (Q (.exit id) S)
@[go_sem ↓] def vc_exit{id}:vc P h0 Q (n+1) (.code (.exit id)::k) S=qen P h0 Q n id S (qbT id k):=(rfl)
@[go_sem ↓] def qsM{id k'}:qen P h0 Q n id S (V k')=vc P h0 Q n k' S:=(rfl)
@[go_sem ↓] def qsL{id}:qen P h0 Q n id S U=Q (.exit id) S:=(rfl)
@[go_sem ↓] def vc_ret:vc P h0 Q (n+1) (.code .ret::k) S=Q .ret S:=(rfl)
@[go_sem ↓] def vc_region{id l}:vc P h0 Q (n+1) (.code (.region id l.toArray Z)::k) S=vc P h0 Q n (.ops l.toArray l::k) S:=(rfl)
@[go_sem ↓] def vc_drawn{id o}:vc P h0 Q (n+1) (.code (.region id o Y)::k) S=IRun P h0 (.code (.region id o Y)::k) S Q:=(rfl)
@[go_sem ↓] def vc_loop{c}:vc P h0 Q (n+1) (.code (.loop c)::k) S=IRun P h0 (.code (.loop c)::k) S Q:=(rfl)
@[go_sem ↓] def qtg{a}:vc P h0 Q (n+1) (.ops a []::k) S=vc P h0 Q n k S:=(rfl)
def qdi(P:Program)(h0:IH)(Q:Exit->qab->Prop)(n:Nat)(a:Array Oper)(o:Oper)(r:List Oper)(k:List It)(N:Nat)(s:List (Nat × IV))(d:List IDef)(nx:Nat)(l:List (Nat × IBlk))(x:Option FR):Prop:=
 qas x (λf=>if dOk N o.dst then vc P h0 Q n (.ops a r::k) ⟨N,putS o.dst f.x s,d,nx+f.F.length,f.W.reverse++l⟩ else False)
  (IRun P h0 (.ops a (o::r)::k) ⟨N,s,d,nx,l⟩ Q)
section
variable{all:Array Oper}{r:List Oper}{dst:Option Tmp}{op:Op}{ty:TypeId}{pos:String}{aft:Array Edge}{N:Nat}{s:List (Nat × IV)}{d:List IDef}{nx:Nat}{l:List (Nat × IBlk)}
@[go_sem ↓] theorem vc_ops:vc P h0 Q (n+1) (.ops all (⟨dst,op,ty,pos,aft,U⟩::r)::k) ⟨N,s,d,nx,l⟩=
  qdi P h0 Q n all ⟨dst,op,ty,pos,aft,U⟩ r k N s d nx l (fop P (ev s) (look (l++h0.m)) nx all dst op):=(rfl)
@[go_sem ↓] theorem qtf{g t x R W F}:
  qdi P h0 Q n all ⟨V t,op,ty,pos,aft,g⟩ r k N s d nx l (V ⟨x,R,F,W⟩)=if t < N then vc P h0 Q n (.ops all r::k) ⟨N,(t,x)::s,d,nx+F.length,W.reverse++l⟩ else False:=by simp[qdi,qas,dOk,putS]
@[go_sem ↓] theorem qte{g x R W F}:
  qdi P h0 Q n all ⟨U,op,ty,pos,aft,g⟩ r k N s d nx l (V ⟨x,R,F,W⟩)=vc P h0 Q n (.ops all r::k) ⟨N,s,d,nx+F.length,W.reverse++l⟩:=wv
@[go_sem ↓] theorem qs3{o}:qdi P h0 Q n all o r k N s d nx l U=IRun P h0 (.ops all (o::r)::k) ⟨N,s,d,nx,l⟩ Q:=(rfl)
theorem ql8{o x x'}(h:x=x'):qdi P h0 Q n all o r k N s d nx l x=qdi P h0 Q n all o r k N s d nx l x':=wy
def qcz(P:Program)(h0:IH)(Q:Exit->qab->Prop)(n:Nat)(all:Array Oper)(o:Oper)(r:List Oper)(k:List It)(N:Nat)(s:List (Nat × IV))(d:List IDef)(nx:Nat)(l:List (Nat × IBlk))(x:Option Bool):Prop:=
 qas x (λb=>qbD b (qdi P h0 Q n all o r k N s d nx l (fop P (ev s) (look (l++h0.m)) nx all o.dst o.op))
  (if dOk N o.dst then vc P h0 Q n (.ops all r::k) ⟨N,putS o.dst (.tup []) s,d,nx,l⟩ else False)) (IRun P h0 (.ops all (o::r)::k) ⟨N,s,d,nx,l⟩ Q)
@[go_sem ↓] theorem qsS{g}:vc P h0 Q (n+1) (.ops all (⟨dst,op,ty,pos,aft,V g⟩::r)::k) ⟨N,s,d,nx,l⟩=
  qcz P h0 Q n all ⟨dst,op,ty,pos,aft,V g⟩ r k N s d nx l (qam all s ⟨dst,op,ty,pos,aft,V g⟩):=(rfl)
@[go_sem ↓] theorem qsA{o}:qcz P h0 Q n all o r k N s d nx l (V Y)=qdi P h0 Q n all o r k N s d nx l (fop P (ev s) (look (l++h0.m)) nx all o.dst o.op):=(rfl)
@[go_sem ↓] theorem qrF{g t}:qcz P h0 Q n all ⟨V t,op,ty,pos,aft,g⟩ r k N s d nx l (V Z)=
  if t < N then vc P h0 Q n (.ops all r::k) ⟨N,(t, .tup [])::s,d,nx,l⟩ else False:=by simp[qcz,qas,qbD,dOk,putS]
@[go_sem ↓] theorem qsz{g}:qcz P h0 Q n all ⟨U,op,ty,pos,aft,g⟩ r k N s d nx l (V Z)=vc P h0 Q n (.ops all r::k) ⟨N,s,d,nx,l⟩:=wv
theorem qiF{o x x'}(h:x=x'):qcz P h0 Q n all o r k N s d nx l x=qcz P h0 Q n all o r k N s d nx l x':=wy
def qem(P:Program)(h0:IH)(Q:Exit->qab->Prop)(n:Nat)(c:Operand)(x y:Code)(k:List It)(N:Nat)(s:List (Nat × IV))(d:List IDef)(nx:Nat)(l:List (Nat × IBlk))(z:Option IV):Prop:=
 qlN z (λt=>qbD t (vc P h0 Q n (.code x::k) ⟨N,s,d,nx,l⟩) (vc P h0 Q n (.code y::k) ⟨N,s,d,nx,l⟩)) (IRun P h0 (.code (.cond c x y)::k) ⟨N,s,d,nx,l⟩ Q)
@[go_sem ↓] theorem vc_cond{c x y}:vc P h0 Q (n+1) (.code (.cond c x y)::k) ⟨N,s,d,nx,l⟩=qem P h0 Q n c x y k N s d nx l (ev s c):=(rfl)
@[go_sem ↓] theorem qsK{c x y}:qem P h0 Q n c x y k N s d nx l (V (.p (.sc (.bool Y))))=vc P h0 Q n (.code x::k) ⟨N,s,d,nx,l⟩:=(rfl)
@[go_sem ↓] theorem qsy{c x y}:qem P h0 Q n c x y k N s d nx l (V (.p (.sc (.bool Z))))=vc P h0 Q n (.code y::k) ⟨N,s,d,nx,l⟩:=(rfl)
theorem qi5{c x y z a}(h:z=a):qem P h0 Q n c x y k N s d nx l z=qem P h0 Q n c x y k N s d nx l a:=wy
end
def qm1{x y}:qbD Y x y=x:=rfl
def qlM{x y}:qbD Z x y=y:=rfl
def qoq{S S'}(h:S=S'):IRun P h0 k S Q=IRun P h0 k S' Q:=wy
end
attribute [go_sem ↓] qm1 qlM
attribute [congr] ql8 qiF qi5 qoq
attribute [congr] qpZ
attribute [go_sem ↓] qrf qre
@[go_sem] def look_nil{a i}:look ([]:List (Nat × a)) i=U:=(rfl)
@[go_sem] def look_cons{a k i}{x:a}{r}:look ((k,x)::r) i=if k=i then V x else look r i:=(rfl)
@[go_sem] def ev_tmp{s t}:ev s (.tmp t)=look s t:=(rfl)
@[go_sem] def ev_const{s v}:ev s (.const v)=cst v:=(rfl)
@[go_sem] def ev_func{s f}:ev s (.func f)=V (.p (.sc (.func (.func f) #[] #[]))):=(rfl)
attribute [go_sem] qeg qgS qf9 fext cst qbT qam qgq qko fop sci scb
attribute [go_sem] qgQ qeQ qeS qew idx ibin qkk ql9 sbin fbin sun fun1 scv fconv qfp qeR qeU fextract qcF flen qef sbd sbds qeX ropt rlist scs qeT fnil imax imin fmax
attribute [go_sem] tlit qnr qkf qkf.go qbx fbox zcs qeN qgR fstore iapp qhV fapp qgP iset qb7 qeP rparts pvs qa7 flit qc3 qke qgV ires enum start bel bels qaQ
end Go.Idl
namespace Go.Idl
variable{P:Program}{h0:IH}
def Loc(P:Program)(o:Oper)(ρ:Operand->Option IV)(R:List (Nat × IBlk))(F:List Nat)(x:IV)(W:List (Nat × IBlk)):Prop:=
 ∀(n:Nat) (m:List (Nat × IBlk)) (M:Mem) (a:Act),HRel n m M->(∀p∈R,look m p.1=V p.2)->(∀b∈F,¬M.H.A b)->
  (∀y∈o.op.operands,∀z,ρ y=V z->VRel M z (a.eval y))->
  ∀(K:Act->World->Prop) (Q:Exit->Act->World->Prop),
   (∀v c,qaf M c->MRel c->c.H=M.H.upd W->VRel c x v->K (a.put o.dst v) c.w)->o.wp P a M.w K Q
def qbl.loc{o ρ R W F x}(h:qbl P o ρ R F x W):Loc P o ρ R F x W:=
 λ_ _ M a b c d e K Q f=>h M a b.rel (λp g=>by rw[b.G];grind) d e K Q f
mutual
def belA(A:Nat->Prop):IV->Prop
 | .p _=>True
 | .ref b _ _ _=>A b
 | .ptr b _ _ _=>A b
 | .mp b=>A b
 | .clo _ f c=>qep A f/\qep A c
 | .agg cs=>qep A cs
 | .tup cs=>qep A cs
 | .dead=>True
def qep(A:Nat->Prop):List IV->Prop
 | []=>True
 | x::r=>belA A x/\qep A r
end
def qdH{A}: ∀ {l} {i:Nat} {x},qep A l->l[i]? =V x->belA A x
 | [],i,x,_,h=>by grind
 | y::l,0,x,a,h=>by cases h;exact a.1
 | y::l,i+1,x,a,h=>qdH a.2 wE
def qeb{A}: ∀ {l},(∀(i:Nat) (x),l[i]? =V x->belA A x)->qep A l
 | [],_=>trivial
 | y::l,h=>⟨h 0 y rfl,qeb λi x a=>h (i+1) x wg⟩
def qph{A}(x):bel 0 x->belA A x:=by
 apply IV.rec (motive_1:=λx=>bel 0 x->belA A x) (motive_2:=λl=>bels 0 l->qep A l)
 .intro x _;trivial
 .intro b g o e h;exact absurd h (Ky _)
 .intro b g r j h;exact absurd h (Ky _)
 .intro b h;exact absurd h (Ky _)
 .intro m f c i a h;exact⟨i h.1,a h.2⟩
 .intro k d h;exact d h
 .intro k d h;exact d h
 .intro _;trivial
 .intro _;trivial
 .intro x l i a h;exact⟨i h.1,a h.2⟩
def VRel.toBelA{M x v}(h:VRel M x v):belA M.H.A x:=by
 induction h with
 | p x v h=>trivial
 | ref b g o l v c k h=>exact c
 | ptr b g r j v c k h=>exact c
 | mp b v c k h=>exact c
 | clo y first m z vc n q A B s t=>
   refine⟨qeb λi x d=>?_,qeb λi x d=>?_⟩
   .have a:=qad d;rw[<-n] at a;exact s i x _ d (Ka a)
   .have a:=qad d;rw[<-q] at a;exact t i x _ d (Ka a)
 | agg u w e C r f=>
   refine qeb λi x d=>?_;have a:=qad d;rw[<-e] at a;exact f i x _ d (Ka a)
 | tup u w e r f=>
   refine qeb λi x d=>?_;have a:=qad d;rw[<-e] at a;exact f i x _ d (Ka a)
 | dead v=>trivial
def Mem.useA(M:Mem)(A:Nat->Prop):Mem:=⟨M.w,⟨A,M.H.G,M.H.O⟩,M.β⟩
def VRel.useA{M A x v}(h:VRel M x v):belA A x->VRel (M.useA A) x v:=by
 induction h with
 | p x v h=>intro _;exact .p x v h
 | ref b g o l v e a h=>intro c;exact .ref b g o l v c a h
 | ptr b g r j v e a h=>intro c;exact .ptr b g r j v c a h
 | mp b v e a h=>intro c;exact .mp b v c a h
 | clo s first f t vc u w C D y z=>
   intro c;exact .clo s first f t vc u w (λi x v d a=>y i x v d a (qdH c.1 d)) (λi x v d a=>z i x v d a (qdH c.2 d))
 | agg k m n B r q=>intro c;exact .agg k m n B λi x v d a=>q i x v d a (qdH c d)
 | tup k m n r q=>intro c;exact .tup k m n λi x v d a=>q i x v d a (qdH c d)
 | dead v=>intro _;exact .dead v
def mem_useA{M M'}(D:MRel M)(h:MRel M')(s:qaf M M')(J:M'.H.G=M.H.G):qaf M (M'.useA M.H.A)/\MRel (M'.useA M.H.A):=by
 refine⟨⟨s.os,s.tape,s.output,s.size,s.keep,λb f=>f,λb t Q f=>s.comp b t Q f,s.oeq,s.ofix⟩,⟨λb a f=>D.dom b a (by rw[<-J];exact f),λb a f=>?_,h.inj,h.olt,h.odis⟩⟩;have l:M'.H.G b=V a:=f;have u:=h.blk b a l;have m:M.H.G b=V a:=wg
 have p:=D.blk b a m;obtain⟨K,L,_,_,_,R⟩:=s.comp b a (D.dom b a m) l;rw[m] at L;cases L;obtain⟨E,_⟩:=R rfl;cases a with
 | arr sz g N=>
   refine⟨u.1,u.2.1,λc o n r=>?_⟩;obtain⟨S,T,w,y,z,F,W⟩:=u.2.2 c o n r;refine⟨S,T,w,y,z,F,λi A j x d O=>?_⟩;obtain⟨v,X,v2,v3⟩:=W i A j x d O;obtain⟨a0,a1,_,_,_,_,p5⟩:=p.2.2 c o n (by rw[<-E];exact r);obtain⟨v0,_,_,G⟩:=p5 i A j x d O;exact⟨v,X,v2,v3.useA G.toBelA⟩
 | mp es=>
   obtain⟨c,o,n,r,H,q,w,y,z⟩:=u;refine⟨c,o,n,r,H,q,w,y,λi k x d=>?_⟩;obtain⟨e,e1,e2,e3⟩:=z i k x d;obtain⟨c0,o0,n0,_,a2,C,_,_,I⟩:=p;obtain⟨_,_,_,G⟩:=I i k x d;exact⟨e,e1,e2,e3.useA G.toBelA⟩
 | ob k vs=>
   obtain⟨c,o,n,r,ob,us,w,y,z,F⟩:=u;refine⟨c,o,n,r,ob,us,w,y,z,λi x v d hv=>?_⟩;obtain⟨_,_,_,_,_,a3,_,_,I,p4⟩:=p;have B:=qad d;rw[<-I] at B;exact(F i x v d hv).useA (p4 i x _ d (Ka B)).toBelA
def qez{o:Oper}{ρ:Operand->Option IV}{f:Operand}{args:List Operand}{ts:Array TypeId}{n:FuncId}{zs:List IV}{M:Mem}{a:Act}
  (r: ∀y∈o.op.operands,∀z,ρ y=V z->VRel M z (a.eval y))
  (b:o.op= .call {callee:= .value f,args:=⟨args⟩,argTypes:=ts}) (h:qao ρ f args=V (n,zs)) (s:fnOk P n=Y):
  ∃vs:List Value,(execOp a.eval o).run P M.w= .ok (.enter n ⟨vs⟩) M.w/\vs.length=zs.length/\ ∀(i:Nat) (x:IV) (v:Value),zs[i]? =V x->vs[i]? =V v->VRel M x v:=by
 have t: ∀z,ρ f=V z->VRel M z (a.eval f):=λz c=>r f (by simp[b,Op.operands,Call.operands]) z c
 have u: ∀y∈args,∀z,ρ y=V z->VRel M z (a.eval y):=λy A z c=>r y (by simp[b,Op.operands,Call.operands,A]) z c
 unfold qao at h;split at h
 .rename_i B d g j;simp only[Option.some.injEq,Prod.mk.injEq] at h;obtain⟨rfl,rfl⟩:=h;have e:=(t _ g).sc_inv;obtain⟨l,k⟩:=qbt (M:=M) (a:=a) j u;refine⟨args.map a.eval,?_,l,k⟩;simp only[execOp,b,resolve,e,Deferred.ofValue,KH,KG,KK,invoke];rw[qbZ s];simp
 .rename_i B first m d g j;simp only[Option.some.injEq,Prod.mk.injEq] at h;obtain⟨rfl,rfl⟩:=h;have w:=t _ g;obtain⟨l,k⟩:=qbt (M:=M) (a:=a) j u;generalize C:a.eval f=q at w;cases w with
  | clo H first m D vc p E F G=>
    refine⟨D++args.map a.eval++vc,?_,by simp only[Ki,p,E,l],qbM (by simp only[Ki,p,l]) (qbM p F k) G⟩;simp only[execOp,b,resolve,C,Deferred.ofValue,KH,KG,KK,invoke];rw[qbZ s];simp
 .cases h
def PCall(P:Program)(f:FuncId)(args:List IV)(R:List (Nat × IBlk))(x:IV):Prop:=
 ∀h:IH,(∀p∈R,look h.m p.1=V p.2)->qa5 P f args h λr n l=>r= .ret x/\n=h.nx/\l= []
def PCall.loc{o ρ f args ts n zs R x}
  (k:o.op= .call {callee:= .value f,args:=⟨args⟩,argTypes:=ts}) (l:qao ρ f args=V (n,zs)) (p:fnOk P n=Y) (q:bel 0 x)
  (hp:PCall P n zs R x):Loc P o ρ R [] x []:=by
 intro r m M a c t _ u K Q w;obtain⟨y,h,z,d⟩:=qez u k l p;unfold Oper.wp;rw[h];refine Calls.mono (hp ⟨r,m⟩ t M y c z d) λe I ⟨g,A,J,L,B,s,i,C,D,E,F⟩=>?_;subst D E F;obtain⟨v,rfl,d⟩:=C;subst B;have j:g.H.G=M.H.G:=by funext b;rw[i.G,c.G];rfl
 obtain⟨G,H⟩:=mem_useA c.rel i.rel s j;refine w v (g.useA M.H.A) G H ?_ (d.useA (qph x q));simp[Mem.useA,AH.upd,j,s.oeq]
def qoo{a dst ty b c g r S Q f args ts n zs x R}
  (d:qam a S.s ⟨dst, .call {callee:= .value f,args:=⟨args⟩,argTypes:=ts},ty,b,c,g⟩=V Y) (i:qao (ev S.s) f args=V (n,zs)) (j:fnOk P n=Y) (m:dOk S.n dst=Y)
  (k: ∀p∈R,look (S.l++h0.m) p.1=V p.2) (hp:PCall P n zs R x)
  (h:IOps P h0 a r ⟨S.n,putS dst x S.s,S.d,S.nx,S.l⟩ Q):IOps P h0 a (⟨dst, .call {callee:= .value f,args:=⟨args⟩,argTypes:=ts},ty,b,c,g⟩::r) S Q:=by
 refine iops_call rfl d i j wq ((hp ⟨S.nx,S.l++h0.m⟩ k).mono ?_);simp_all[qa6]
end Go.Idl
namespace Go.Idl
variable{P:Program}{h0:IH}
inductive Prec(ops:Array Oper):Nat->Nat->Prop where
 | edge {i:Nat} {o:Oper} {e:Edge} (ho:ops[i]? =V o) (he:e∈o.after.toList) (hb:Region.binds .any e=Y):Prec ops e.on i
 | trans {i j k:Nat} (h:Prec ops k j) (h':Prec ops j i):Prec ops k i
def qg1(t:List Nat):List Edge->Nat
 | []=>0
 | e::r=>if Region.binds .any e then 2 ^ e.on ||| ((t[e.on]?).getD 0 ||| qg1 t r) else qg1 t r
def qa0:List Oper->List Nat->List Nat
 | [],t=>t
 | o::r,t=>qa0 r (t++ [qg1 t o.after.toList])
def qow{a t}(k: ∀(i m j),t[i]? =V m->m.testBit j=Y->Prec a j i){i o}(l:a[i]? =V o):
  ∀(es),(∀e∈es,e∈o.after.toList)-> ∀j,(qg1 t es).testBit j=Y->Prec a j i:=by
 intro es;induction es with
 | nil=>intro _ j h;simp[qg1] at h
 | cons e es n=>
   intro b j h;simp[qg1] at h;split at h
   .rename_i q;have c:Prec a e.on i:= .edge l (b e Kc) q;simp[Nat.testBit_two_pow] at h;rcases h with rfl | h | h
    .omega
    .cases f:t[e.on]? with
     | none=>grind
     | some m=>rw[f] at h;exact .trans (k _ _ _ f h) c
    grind
   grind
def qox{a}: ∀(l t),(∀(i o),l[i]? =V o->a[t.length+i]? =V o)->
  (∀(i m j),t[i]? =V m->m.testBit j=Y->Prec a j i)-> ∀(i m j),(qa0 l t)[i]? =V m->m.testBit j=Y->Prec a j i:=by
 intro l;induction l with
 | nil=>intro t _ c;exact c
 | cons o l g=>
   intro t e c;refine g _ (λi k d=>?_) (λi m j b f=>?_)
   .have:=e (i+1) k wn
    grind
   .rw[List.getElem?_append] at b;split at b
    .simp_all
    .have p:i=t.length:=by
      grind
     subst p;simp[Nat.sub_self,Ko,Option.some.injEq] at b;subst b;exact qow c (by simpa using e 0 o rfl) _ (λ_ h=>h) j f
def qgs: ∀(l t),(qa0 l t).length=t.length+l.length
 | [],t=>rfl
 | o::l,t=>by simp[qa0,qgs l];omega
def qkg:Nat->List Oper->Bool
 | _, []=>Y
 | k,o::r=>o.after.toList.all (λe=>!Region.binds .any e || decide (e.on < k)) && qkg (k+1) r
def qij: ∀ {l k},qkg k l=Y-> ∀(i o),l[i]? =V o-> ∀e∈o.after.toList,Region.binds .any e=Y->e.on < k+i
 | [],k,_,i,o,a=>by grind
 | x::l,k,h,i,o,a=>by
   simp only[qkg,KI] at h;intro e c d;cases i with
   | zero=>
     grind
   | succ i=>have:=qij h.2 i o wg e c d;omega
def qiq(o:Array Oper)(i:Nat)(x:Oper):List (Oper × Nat)->Bool
 | []=>Y
 | (y,m)::r=>(match x.dst with | some d=>y.dst != V d | none=>Y) && (m.testBit i || x.apart o y) && qiq o i x r
def qg6(o:Array Oper):Nat->List (Oper × Nat)->Bool
 | _, []=>Y
 | i,(x,_)::r=>qiq o i x r && qg6 o (i+1) r
def qhq{o i x}: ∀ {l},qiq o i x l=Y-> ∀(j:Nat) (y m),l[j]? =V (y,m)->
  (∀d,x.dst=V d->y.dst≠V d)/\(m.testBit i=Y\/x.apart o y=Y)
 | [],_,j,y,m,h=>by grind
 | (z,k)::l,a,j,y,m,h=>by
   simp[qiq] at a;cases j with
   | zero=>
     grind
   | succ j=>exact qhq a.2 j y m wg
def qgA{o}: ∀ {l k},qg6 o k l=Y-> ∀(i j:Nat) (x y mx m),i < j->l[i]? =V (x,mx)->l[j]? =V (y,m)->
  (∀d,x.dst=V d->y.dst≠V d)/\(m.testBit (k+i)=Y\/x.apart o y=Y)
 | [],k,_,i,j,x,y,mx,m,_,h,_=>by grind
 | (z,g)::l,k,a,i,j,x,y,mx,m,e,b,c=>by
   simp[qg6] at a;obtain⟨j,rfl⟩: ∃f,j=f+1:=⟨j - 1,wa⟩;cases i with
   | zero=>
     obtain⟨rfl,rfl⟩:=b;exact qhq a.1 j y m wg
   | succ i=>
     have:=qgA a.2 i j x y mx m wa wg wg
     grind
def qoW(m:List Nat)(j:Nat):List Nat:=
 (List.range m.length).filter λi=>i != j && !((m[j]?).getD 0).testBit i && !((m[i]?).getD 0).testBit j
def isW:Op->Bool
 | .alloc _ | .box _ _ | .makeSlice _ _ _ | .store _ _ _ | .buildSlice _ _ _=>Y
 | .call {callee:= .builtin .append, .. }=>Y
 | .call {callee:= .builtin .copy, .. }=>Y
 | .call {callee:= .value _, .. }=>Y
 | _=>Z
def uGo(m:List Nat):Nat->List Oper->List (Option (List Nat))
 | _, []=> []
 | j,o::r=>(if isW o.op then V (qoW m j) else U)::uGo m (j+1) r
def qmc{m}: ∀ {l k j u},(uGo m k l)[j]? =V (V u)->u=qoW m (k+j)
 | [],k,j,u,h=>by simp[uGo] at h
 | o::l,k,j,u,h=>by
   cases j with
   | zero=>
     simp_all[uGo]
   | succ j=>
     simp[uGo] at h;have:=qmc h
     grind
def qiH{m}: ∀ {l k},(uGo m k l).length=l.length
 | [],_=>rfl
 | _::l,k=>by simp[uGo,qiH]
def stat(o:List Oper)(u:List (Option (List Nat))):Bool:=
 qkg 0 o && qg6 o.toArray 0 (o.zip (qa0 o [])) && uGo (qa0 o []) 0 o==u
def Free(o:List Oper)(i j:Nat):Prop:=i≠j/\ ¬((qa0 o [])[j]?.getD 0).testBit i=Y/\ ¬((qa0 o [])[i]?.getD 0).testBit j=Y
structure Stat(ops:List Oper)(u:List (Option (List Nat))):Prop where
 prec: ∀(i j:Nat),((qa0 ops [])[i]?.getD 0).testBit j=Y->Prec ops.toArray j i
 low: ∀(i:Nat) (o:Oper),ops[i]? =V o-> ∀e∈o.after.toList,Region.binds .any e=Y->e.on < i
 dst: ∀(i j:Nat) (x y:Oper),i≠j->ops[i]? =V x->ops[j]? =V y-> ∀d,x.dst=V d->y.dst≠V d
 looks: ∀(i j:Nat) (x y:Oper),Free ops i j->ops[i]? =V x->ops[j]? =V y-> ∀d,y.dst=V d->d ∉ x.looksAt ops.toArray
 un: ∀(j i:Nat) (l:List Nat),u[j]? =V (V l)->Free ops i j->i < ops.length->i∈l
 len:u.length=ops.length
def qjV{a:List Oper}{u:List (Option (List Nat))}(h:stat a u=Y):Stat a u:=by
 simp only[stat,KI,beq_iff_eq] at h;obtain⟨⟨E,F⟩,B⟩:=h;have G: ∀(i m j:Nat),(qa0 a [])[i]? =V m->m.testBit j=Y->Prec a.toArray j i:=qox a [] (λi o t=>by simpa using t) wb;have k:(qa0 a []).length=a.length:=by simp[qgs]
 have C: ∀(i:Nat) (x:Oper),a[i]? =V x-> ∃m,(qa0 a [])[i]? =V m/\(a.zip (qa0 a []))[i]? =V (x,m):=by
  intro i x r;have n:=qad r;simp_all
 have s: ∀(i j:Nat) (x y:Oper),i < j->a[i]? =V x->a[j]? =V y->(∀d,x.dst=V d->y.dst≠V d)/\(((qa0 a [])[j]?.getD 0).testBit i=Y\/x.apart a.toArray y=Y):=by
  intro i j x y c f b;obtain⟨H,_,r⟩:=C i x f;obtain⟨I,p,J⟩:=C j y b;have:=qgA F i j x y H I c r J;rw[p];simpa using this
 refine⟨λi j b=>?_,λi o t e K L=>by simpa using qij E i o t e K L,λi j x y c f b d q=>?_,λi j x y v f b d q=>?_,λj i l D v n=>?_,by rw[<-B,qiH]⟩
 .grind
 .grind
 .obtain⟨g,z,A⟩:=v;rcases KC g with h | h
  .have:=((s i j x y h f b).2.resolve_left z);exact(Oper.apart_spec this).2.2 d q
  .have:=((s j i y x h b f).2.resolve_left A);exact(Oper.apart_spec this).1 d q
 .rw[<-B] at D;have:=qmc D;subst this;obtain⟨g,z,A⟩:=v;simp_all[qoW,List.mem_filter,List.mem_range,Nat.zero_add,KI,bne_iff_ne,ne_eq,Bool.not_eq_true']
end Go.Idl
namespace Go.Idl
variable{P:Program}{h0:IH}
structure FR.fitsG(fr:FR)(G:Nat->Option IBlk)(nx:Nat):Prop where
 reads: ∀p∈fr.R,G p.1=V p.2
 rng: ∀b∈fr.F,nx<=b/\b < nx+fr.F.length
 new: ∀p∈fr.W,p.1∈fr.F\/ ∃blk,(p.1,blk)∈fr.R
def FR.fits.G{fr:FR}{G nx}(h:fr.fits G nx):fr.fitsG G nx:=by
 refine⟨h.reads,?_,λp a=>?_⟩
 .rcases h.new with ⟨b,_⟩ | ⟨b,_⟩<;>rw[b]<;>simp
 .rcases h.new with ⟨_,c⟩ | ⟨b,d,c⟩<;>grind
inductive qaH(P:Program)(h0:IH)(all:Array Oper):List Oper->qab->List FR->qab->Prop where
 | nil (S:qab):qaH P h0 all [] S [] S
 | op {o:Oper} {r:List Oper} {S S':qab} {fr:FR} {frs:List FR} (hw:qam all S.s o=V Y) (hl:Loc P o (ev S.s) fr.R fr.F fr.x fr.W)
   (hf:fr.fitsG (look (S.l++h0.m)) S.nx) (hd:dOk S.n o.dst=Y)
   (h:qaH P h0 all r ⟨S.n,putS o.dst fr.x S.s,S.d,S.nx+fr.F.length,fr.W.reverse++S.l⟩ frs S'):qaH P h0 all (o::r) S (fr::frs) S'
 | skip {o:Oper} {r:List Oper} {S S':qab} {frs:List FR} (hw:qam all S.s o=V Z) (hd:dOk S.n o.dst=Y)
   (h:qaH P h0 all r ⟨S.n,putS o.dst (.tup []) S.s,S.d,S.nx,S.l⟩ frs S'):qaH P h0 all (o::r) S ({x:= .tup []}::frs) S'
def selS:List Oper->List FR->(Nat->Bool)->List (Nat × IV)->List (Nat × IV)
 | o::r,f::a,L,s=>selS r a (λk=>L (k+1)) (if L 0 then putS o.dst f.x s else s)
 | _,_,_,s=>s
def selL:List FR->(Nat->Bool)->List (Nat × IBlk)->List (Nat × IBlk)
 | f::a,L,l=>selL a (λk=>L (k+1)) (if L 0 then f.W.reverse++l else l)
 | _,_,l=>l
theorem qjz{dst x s t}:look (putS dst x s) t=if dst=V t then V x else look s t:=by cases dst<;>simp_all[putS,look]
def selS_agree: ∀ {a b L L' s s' t},look s t=look s' t->
  (∀(j) (o:Oper),a[j]? =V o->L j≠L' j->o.dst≠V t)->look (selS a b L s) t=look (selS a b L' s') t
 | [],b,L,L',s,s',t,h,_=>by simpa[selS] using h
 | o::a, [],L,L',s,s',t,h,_=>by simpa[selS] using h
 | o::a,f::b,L,L',s,s',t,h,g=>by
   simp[selS];refine selS_agree ?_ λj i c d=>g (j+1) i wg d
   grind[qjz]
def qbP: ∀ {a L L' l l' b},look l b=look l' b->
  (∀(j f),a[j]? =V f->L j≠L' j-> ∀p∈f.W,p.1≠b)->look (selL a L l) b=look (selL a L' l') b
 | [],L,L',s,k,t,h,_=>by simpa[selL] using h
 | f::a,L,L',s,k,t,h,i=>by
   simp[selL];refine qbP ?_ λj o d g=>i (j+1) o wg g;have c:(∀p∈f.W,p.1≠t)->look f.W.reverse t=U:=by
    intro m;cases n:look f.W.reverse t with
    | none=>rfl
    | some x=>exact absurd rfl (m _ (by simpa using look_mem n))
   by_cases e:L 0=L' 0
   .grind[qae]
   .have:=c (i 0 f rfl e)
    grind[qae]
def qb2: ∀ {a b s},selS a b (λ_=>Z) s=s
 | [],_,_=>by rfl
 | o::a, [],_=>by rfl
 | o::a,f::b,s=>by simp[selS];exact qb2
def qcx: ∀ {a l},selL a (λ_=>Z) l=l
 | [],_=>by rfl
 | f::a,s=>by simp[selL];exact qcx
def qi4: ∀ {a b L s} {t i:Nat} {o:Oper} {f},L i=Y->a[i]? =V o->b[i]? =V f->o.dst=V t->
  (∀(j) (o':Oper),a[j]? =V o'->j≠i->o'.dst≠V t)->look (selS a b L s) t=V f.x
 | [],b,L,s,t,i,o,f,_,c,_,_,_=>by grind
 | x::a, [],L,s,t,i,o,f,_,_,d,_,_=>by grind
 | x::a,g::b,L,s,t,i,o,f,e,c,d,l,m=>by
   simp[selS];cases i with
   | zero=>
     simp at c d;subst c;subst d;rw[selS_agree (L':=λ_=>Z) (s':=putS x.dst g.x s) wg (λj o' h _=>m (j+1) o' wg wa),qb2,qjz,if_pos l]
   | succ i=>exact qi4 (L:=λk=>L (k+1)) e wg wg l λj o' h n=>m (j+1) o' wg wa
def qi3: ∀ {a L l b i f blk},L i=Y->a[i]? =V f->look f.W.reverse b=V blk->
  (∀(j c),a[j]? =V c->i < j->L j=Y-> ∀p∈c.W,p.1≠b)->look (selL a L l) b=V blk
 | [],L,l,b,i,f,blk,_,d,_,_=>by grind
 | g::a,L,l,b,i,f,blk,m,d,n,o=>by
   simp[selL];cases i with
   | zero=>
     cases d;rw[qbP (L':=λ_=>Z) (l':=g.W.reverse++l) wg (λj c h e=>o (j+1) c wg wa wg),qcx,qae,n]
   | succ i=>exact qi3 (L:=λk=>L (k+1)) m wg n λj c h q=>o (j+1) c wg wa
structure qk4(P:Program)(h0:IH)(all:Array Oper)(S S':qab)(o:Oper)(fr:FR)(s:List (Nat × IV))(l:List (Nat × IBlk)):Prop where
 dst:dOk S.n o.dst=Y
 does:(qam all s o=V Y/\Loc P o (ev s) fr.R fr.F fr.x fr.W)\/(qam all s o=V Z/\fr= {x:= .tup []})
 reads: ∀p∈fr.R,look (l++h0.m) p.1=V p.2
 new: ∀p∈fr.W,p.1∈fr.F\/ ∃blk,(p.1,blk)∈fr.R
 range: ∀b∈fr.F,S.nx<=b/\b < S'.nx
def qaH.nx{a o S S' f}(h:qaH P h0 a o S f S'):S.nx<=S'.nx:=by induction h<;>grind
def qaH.length{a o S S' f}(h:qaH P h0 a o S f S'):f.length=o.length:=by induction h<;>simp_all
def qaH.fresh{o:Array Oper}{p:List Oper}{S S':qab}{d:List FR}(h:qaH P h0 o p S d S'):
  (∀(i:Nat) (f:FR),d[i]? =V f-> ∀b∈f.F,S.nx<=b/\b < S'.nx)/\ ∀(i j:Nat) (f g:FR),i < j->d[i]? =V f->d[j]? =V g-> ∀b∈f.F,∀l∈g.F,b < l:=by
 induction h with
 | nil S=>simp
 | op w z v x h q=>
   obtain⟨m,r⟩:=q;have s:=h.nx;simp only at m s;refine⟨λi f a b c=>?_,λi j f g t a n b c l k=>?_⟩
   .cases i with
    | zero=>simp at a;subst a;obtain⟨e,y⟩:=v.rng b c;omega
    | succ i=>have:=m i f wz b c;omega
   .obtain⟨j,rfl⟩: ∃u,j=u+1:=⟨j - 1,wa⟩;cases i with
    | zero=>
      simp at a;subst a;obtain⟨e,y⟩:=v.rng b c
      grind
    | succ i=>grind
 | skip w x h q=>
   obtain⟨m,r⟩:=q;refine⟨λi f a b c=>?_,λi j f g t a n b c l k=>?_⟩
   .cases i<;>grind
   .obtain⟨j,rfl⟩: ∃u,j=u+1:=⟨j - 1,wa⟩;cases i<;>grind
def sel_pre(i):(λk=>decide (k+1 < i+1))=λk=>decide (k < i):=wb
def qaH.at{j d S S' f}(h:qaH P h0 j d S f S'):
  ∀(i:Nat) (o),d[i]? =V o-> ∃fr,f[i]? =V fr/\qk4 P h0 j S S' o fr (selS d f (λk=>decide (k < i)) S.s) (selL f (λk=>decide (k < i)) S.l):=by
 induction h with
 | nil S=>simp
 | @op o r S S' fr f l w m n h p=>
   intro i q a;have s:=h.nx;simp only at s;cases i with
   | zero=>
     cases a;refine⟨fr,rfl,?_⟩;simp only[Ky,decide_false,qb2,qcx];refine⟨n, .inl ⟨l,w⟩,m.reads,m.new,λb t=>?_⟩;obtain⟨e,x⟩:=m.rng b t;omega
   | succ i=>
     obtain⟨g,u,c⟩:=p i q wn;refine⟨g,wn,?_⟩;simp only[selS,selL,sel_pre,if_true];exact⟨c.dst,c.does,c.reads,c.new,λb t=>(by have:=c.range b t;grind)⟩
 | @skip o r S S' f l n h p=>
   intro i q a;cases i with
   | zero=>
     cases a;refine⟨_,rfl,?_⟩;simp only[Ky,decide_false,qb2];exact⟨n, .inr ⟨l,rfl⟩,wb,wb,wb⟩
   | succ i=>
     obtain⟨g,u,c⟩:=p i q wn;refine⟨g,wn,?_⟩;simp only[selS,selL,sel_pre,List.nil_append];exact⟨c.dst,c.does,c.reads,c.new,c.range⟩
def qaH.last{a o S S' f}(h:qaH P h0 a o S f S'):
  S'.n=S.n/\S'.d=S.d/\S'.s=selS o f (λ_=>Y) S.s/\S'.l=selL f (λ_=>Y) S.l:=by induction h<;>simp_all[selS,selL]
abbrev FP:=List Nat × List Nat
def FR.fp(f:FR):FP:=(f.R.map (·.1),f.W.map (·.1))
def apF(w:List Nat):Option FP->Prop
 | none=>True
 | some f=> ∀b∈w,b ∉ f.1/\b ∉ f.2
def apL(a:List FP)(w:List Nat):List Nat->Prop
 | []=>True
 | i::l=>apF w a[i]? /\apL a w l
def chk1(a:List FP)(u:Option (List Nat)):List Nat->Prop
 | []=>True
 | b::w=>match u with
   | none=>False
   | some l=>apL a (b::w) l
def qfg(a:List FP):List (Option (List Nat))->List FP->Prop
 | u::b,f::c=>chk1 a u f.2/\qfg a b c
 | _,_=>True
def chk(u:List (Option (List Nat)))(f:List FP):Prop:=qfg f u f
def qk5{a w}: ∀ {l},apL a w l-> ∀i∈l,∀f,a[i]? =V f-> ∀b∈w,b ∉ f.1/\b ∉ f.2
 | [],_,i,c,_,_=>by grind
 | k::l,h,i,c,f,d=>by
   rcases List.mem_cons.1 c with rfl | c
   .have:=h.1;rw[d] at this;exact this
   .exact qk5 h.2 i c f d
def qh1{d}: ∀ {u fs},qfg d u fs->u.length=fs.length-> ∀(j:Nat) (a),fs[j]? =V a->a.2≠ []->
  ∃l,u[j]? =V (V l)/\apL d a.2 l
 | [],fs,_,i,j,a,c,_=>by grind
 | k::n, [],_,_,j,a,c,_=>by grind
 | k::n,f::fs,h,i,j,a,c,e=>by
   cases j with
   | zero=>
     have g:=h.1;cases m:f.2 with
     | nil=>grind
     | cons b w=>
       simp[chk1] at g
       grind
   | succ j=>exact qh1 h.2 wg j a wg e
def qiI(W): ∀(H:AH) (b),(H.upd W).A b↔H.A b\/ ∃blk,(b,blk)∈W:=by
 induction W with
 | nil=>simp[AH.upd]
 | cons p W i=>
   intro H b;obtain⟨k,x⟩:=p;show((H.put k x).upd W).A b↔_
   grind[AH.put]
def qhd(W): ∀(H:AH) (b),(H.upd W).G b=match look W.reverse b with | some x=>V x | none=>H.G b:=by
 induction W with
 | nil=>intro H b;rfl
 | cons p W i=>
   intro H b;obtain⟨k,x⟩:=p;show((H.put k x).upd W).G b=_;rw[i (H.put k x) b,List.reverse_cons,qae]
   grind[AH.put,look]
def ev_rel'{s s' M}{a:Act}(h: ∀i x,look s i=V x-> ∃v,a.tmps[i]? =V v/\VRel M x v){y:Operand}{z}
  (c: ∀t,y= .tmp t->look s t=look s' t) (b:ev s' y=V z):VRel M z (a.eval y):=by
 refine qaF h ?_;cases y with
 | tmp t=>rw[<-b];exact c t rfl
 | const v=>exact b
 | func f=>exact b
 | global g=>exact b
def qdN{e:Array Oper}{s s':List (Nat × IV)}{M:Mem}{a:Act}(h: ∀i x,look s i=V x-> ∃v,a.tmps[i]? =V v/\VRel M x v){o:Oper}{b:Bool}
  (u: ∀j w d,o.guard=V (j,w)->(e[j]?).bind (·.dst)=V d->look s d=look s' d) (g:qam e s' o=V b):Region.wanted o (yielded e a.tmps)=b:=by
 unfold qam at g;unfold Region.wanted;split at g
 .simp_all
 .rename_i j c k;simp only[Kt] at g;obtain⟨t,f,rfl⟩:=g;simp only[k];unfold qgq at f;split at f
  .rename_i d l;split at f
   .rename_i y m;simp only[Option.some.injEq] at f;subst f;obtain⟨v,n,p⟩:=h d _ (by rw[u j c d k l];omega);have:=p.sc_inv;subst this;have q:yielded e a.tmps j=V y:=by
     simp_all[yielded,Kv]
    rw[q];rfl
   .rename_i m;simp only[Option.some.injEq] at f;subst f;obtain⟨v,n,p⟩:=h d _ (by rw[u j c d k l];omega);cases p with
    | tup A B z r=>
      have q:yielded e a.tmps j=U:=by
       simp_all[yielded,Kv]
      rw[q];rfl
   simp_all
  simp_all
structure J(M0:Mem)(h0:IH)(ops:List Oper)(frs:List FR)(S:qab)(L:Nat->Bool)(M:Mem)(a:Act):Prop where
 st:qaf M0 M
 rel:MRel M
 A: ∀b,M.H.A b->b < S.nx\/ ∃j fr,L j=Y/\frs[j]? =V fr/\b∈fr.F
 G: ∀b,M.H.G b=look (selL frs L S.l++h0.m) b
 size:a.tmps.size=S.n
 slot: ∀t x,look (selS ops frs L S.s) t=V x-> ∃v,a.tmps[t]? =V v/\VRel M x v
 defs:qeo M S.d a.defers
 closed: ∀(i:Nat) (o:Oper),ops[i]? =V o->L i=Y-> ∀e∈o.after.toList,Region.binds .any e=Y->L e.on=Y
def Prec.listed{a:List Oper}{L:Nat->Bool}(k: ∀(i o),a[i]? =V o->L i=Y-> ∀e∈o.after.toList,Region.binds .any e=Y->L e.on=Y)
  {j i} (h:Prec a.toArray j i) (b:L i=Y\/ ∃o,a[i]? =V o/\ ∀e∈o.after.toList,Region.binds .any e=Y->L e.on=Y):L j=Y:=by induction h<;>grind
def Prec.lt{a:List Oper}(c: ∀(i o),a[i]? =V o-> ∀e∈o.after.toList,Region.binds .any e=Y->e.on < i){j i}(h:Prec a.toArray j i):j < i:=by induction h<;>grind
end Go.Idl
namespace Go.Idl
variable{P:Program}{h0:IH}
section
variable{ops:List Oper}{frs:List FR}{S S':qab}{u:List (Option (List Nat))}{M0 M:Mem}{a:Act}
theorem qeq(h:Stat ops u)(b:frs.length=ops.length)(n:chk u (frs.map FR.fp)){i j f d}(o:Free ops i j)(m:frs[i]? =V f)(r:frs[j]? =V d):
  ∀p∈d.W,(∀q∈f.R,q.1≠p.1)/\ ∀q∈f.W,q.1≠p.1:=by
 intro p g;have s:=qad m;obtain⟨l,t,v⟩:=qh1 n (by simp[h.len,b]) j d.fp wg (by grind[FR.fp,List.map_eq_nil_iff]);have c:=h.un j i l t o wa;have:=qk5 v i c f.fp wg p.1 (by grind[FR.fp]);simp only[FR.fp,List.mem_map,not_exists,not_and] at this;omega
theorem J.free{L}(b:Stat ops u)(p:J M0 h0 ops frs S L M a){i o}(q:ops[i]? =V o)(r: ∀e∈o.after.toList,Region.binds .any e=Y->L e.on=Y)(n:L i=Z):
  ∀j,L j≠decide (j < i)->Free ops i j:=by
 intro j g;have k:i≠j:=wg
 have c: ∀ {x y},Prec ops.toArray x y->x < y:=λh=>h.lt b.low
 have d: ∀ {x y},Prec ops.toArray x y->(L y=Y\/ ∃o,ops[y]? =V o/\ ∀e∈o.after.toList,Region.binds .any e=Y->L e.on=Y)->L x=Y:=λh s=>h.listed p.closed s
 refine⟨k,λl=>?_,λl=>?_⟩
 .have f:=b.prec j i l
  grind
 .have f:=b.prec i j l
  grind
theorem J.step{L:Nat->Bool}{ro:Option Nat}(a4:RoOk ro (ops.all ndOp))(A:Stat ops u)(W:qaH P h0 ops.toArray ops S frs S')(hc:chk u (frs.map FR.fp))(g:J M0 h0 ops frs S L M a){i:Nat}{o:Oper}(O:ops[i]? =V o)
  (hr: ∀e∈o.after.toList,Region.binds .any e=Y->L e.on=Y) (hi:L i=Z) {K:Act->World->Prop} {Q:Exit->Act->World->Prop}
  (hK: ∀M' a',J M0 h0 ops frs S (λk=>if k=i then Y else L k) M' a'->K a' M'.w):wpOpIn (Wd ro) 0 P ops.toArray Q i K a M.w:=by
 obtain⟨G,l,H⟩:=W.at i o O;have n:=g.free A O hr hi;have R:=W.length;have B: ∀t,t∈o.looksAt ops.toArray->look (selS ops frs L S.s) t=look (selS ops frs (λk=>decide (k < i)) S.s) t:=by
  intro t ht;refine selS_agree rfl λj oj s c e=>?_;exact A.looks i j o oj (n j c) O s t e ht
 have C: ∀p∈G.R,look (selL frs L S.l++h0.m) p.1=V p.2:=by
  intro p hp;rw[<-H.reads p hp,qae,qae];congr 1;rw[qbP (l':=S.l) rfl λj f s c q hq=>?_];exact λe=>((qeq A R hc (n j c) l s q hq).1 p hp) e.symm
 have hA: ∀b,M.H.A b->b < S'.nx:=by
  intro b m;rcases g.A b m with h | ⟨j,f,_,hf,m⟩
  .exact Kx h W.nx
  .exact(W.fresh.1 j f hf b m).2
 have hM:HRel S'.nx (selL frs L S.l++h0.m) M:=⟨g.rel,hA,g.G⟩;have I: ∀b∈G.F,¬M.H.A b:=by
  intro b m a5;obtain⟨r1,_⟩:=W.fresh.1 i G l b m;rcases g.A b a5 with h | ⟨j,f,N,hf,a0⟩
  .omega
  .have c:j≠i:=by rintro rfl;rw[hi] at N;cases N
   rcases KC c with h | h
   .have:=W.fresh.2 j i f G h hf l b a0 b m;omega
   .have:=W.fresh.2 i j G f h l hf b m b a0;omega
 have a1: ∀y∈o.op.operands,∀z,ev (selS ops frs (λk=>decide (k < i)) S.s) y=V z->VRel M z (a.eval y):=by
  intro y hy z hz;refine ev_rel' g.slot (λt ht=>B t ?_) hz;subst ht;exact List.mem_append_left _ (List.mem_filterMap.2 ⟨.tmp t,by simpa using hy,rfl⟩)
 have r: ∀j w d,o.guard=V (j,w)->(ops.toArray[j]?).bind (·.dst)=V d->look (selS ops frs L S.s) d=look (selS ops frs (λk=>decide (k < i)) S.s) d:=by
  intro j w d hg a6;refine B d (List.mem_append_right _ ?_);rw[hg];simp only[a6];simp
 have D: ∀(v:Value) (M':Mem),qaf M M'->MRel M'->M'.H=M.H.upd G.W->VRel M' G.x v->J M0 h0 ops frs S (λk=>if k=i then Y else L k) M' (a.put o.dst v):=by
  intro v M' st X hH hv;have E: ∀j,(if j=i then Y else L j)≠L j->j=i:=by
   intro j h;by_cases e:j=i
   .exact e
   .rw[if_neg e] at h;exact absurd rfl h
  refine⟨g.st.trans st,X,λb m=>?_,λb=>?_,?_,λt x hx=>?_,?_,λk ok hk hl e he m=>?_⟩
  .rw[hH,qiI] at m;rcases m with m | ⟨a7,m⟩
   .rcases g.A b m with h | ⟨j,f,F,h2,h3⟩
    .exact .inl h
    .exact .inr ⟨j,f,by by_cases e:j=i<;>simp[e,F],h2,h3⟩
   .rcases H.new _ m with h | ⟨b1,h⟩
    .exact .inr ⟨i,G,wb,l,h⟩
    .have F:=C _ h;simp only at F;rw[<-g.G] at F;rcases g.A b (g.rel.dom b _ F) with h | ⟨j,f,F,h2,h3⟩
     .exact .inl h
     .exact .inr ⟨j,f,by by_cases e:j=i<;>simp[e,F],h2,h3⟩
  .rw[hH,qhd,qae];cases hw:look G.W.reverse b with
   | some a7=>
     rw[qi3 (i:=i) wb l hw λj f s a2 N p hp e=>?_];have a3:L j=Y:=by simpa[show j≠i by omega] using N
     have a8:=n j (by rw[a3];simp;omega);have hq:=look_mem hw;exact(qeq A R hc a8 l s p hp).2 _ (by simpa using hq) e.symm
   | none=>
     rw[qbP (l':=S.l) (L':=L) rfl λj f s c p hp e=>?_]
     .rw[g.G b,qae]
     .have:=E j c;subst this;rw[l] at s;cases s;exact look_none hw p (by simpa using hp) e
  .cases T:o.dst with
   | none=>exact g.size
   | some d=>simp only[Act.put,Array.size_setIfInBounds];exact g.size
  .by_cases e:o.dst=V t
   .rw[qi4 (i:=i) wb O l e (λj oj s c=>A.dst i j o oj (Ne.symm c) O s t e)] at hx;cases hx;have a2:t < a.tmps.size:=by
     have:=H.dst;rw[e] at this;rw[g.size];simpa[dOk] using this
    exact⟨v,by rw[e];simp[Act.put,a2],hv⟩
   .rw[selS_agree (L':=L) (s':=S.s) rfl λj oj s c=>(by have:=E j c;subst this;rw[O] at s;cases s;exact e)] at hx;obtain⟨v',F,h2⟩:=g.slot t x hx;refine⟨v',?_,h2.step st⟩;cases T:o.dst with
    | none=>exact F
    | some d=>
      simp only[Act.put];rw[Array.getElem?_setIfInBounds_ne (λh=>e (by rw[T,h]))];exact F
  .have:(a.put o.dst v).defers=a.defers:=vp
   rw[this];exact g.defs.step st
  .by_cases ek:k=i
   .subst ek;rw[O] at hk;cases hk;have:=hr e he m;show(if e.on=k then Y else L e.on)=Y;split<;>simp[this]
   .have a9:L k=Y:=by simpa[ek] using hl
    have:=g.closed k ok hk a9 e he m;show(if e.on=i then Y else L e.on)=Y;split<;>simp[this]
 refine qkm (λo' b0=>a4.mem (Kb (by simpa using b0))) ?_;simp only[Kf,O];rcases H.does with ⟨hw,hl⟩ | ⟨hw,he⟩
 .rw[if_pos (qdN g.slot r hw)];exact(hl S'.nx _ M a hM C I a1 K Q λv M' st X hH hv=>hK M' _ (D v M' st X hH hv))
 .rw[qdN g.slot r hw];simp only[KJ,if_false];refine hK M _ (D undef M (.refl M) g.rel (by rw[he];rfl) (by rw[he];exact qiE _))
theorem qpo{ro:Option Nat}(N:RoOk ro (ops.all ndOp))(E:Stat ops u)(F:qaH P h0 ops.toArray ops S frs S')(hc:chk u (frs.map FR.fp)){Q:Exit->Act->World->Prop}(hQ: ∀M a,qaf M0 M->SRel h0 S' M a->Q .normal a M.w):
  ∀(g:Nat) (c:Array Bool) (M:Mem) (a:Act),c.size=ops.length->(c.toList.filter (·==Y)).length+g=ops.length->
   J M0 h0 ops frs S (λk=>c.getD k Z) M a->wpAnyIn (Wd ro) 0 P .any ops.toArray Q g c a M.w:=by
 have n: ∀(c:Array Bool) (k:Nat),k < c.size->c.getD k Y=c.getD k Z:=by
  intro c k p;simp[p]
 have y: ∀(c:Array Bool) (M:Mem) (a:Act),(∀k,k < ops.length->c.getD k Z=Y)->J M0 h0 ops frs S (λk=>c.getD k Z) M a->Q .normal a M.w:=by
  intro c M a m q;obtain⟨l1,l2,l3,l4⟩:=F.last;have a0:=F.length;refine hQ M a q.st ⟨⟨q.rel,λb z=>?_,λb=>?_⟩,by rw[l1];exact q.size,λt x hx=>?_,by rw[l2];exact q.defs⟩
  .rcases q.A b z with h | ⟨j,f,_,h2,h3⟩
   .exact Kx h F.nx
   .exact(F.fresh.1 j f h2 b h3).2
  .rw[q.G b,l4,qae,qae];congr 1;exact qbP rfl λj f O A=>absurd (m j (by have:=qad O;omega)) A
  .rw[l3] at hx;refine q.slot t x ?_;rw[<-hx];exact selS_agree rfl λj o O A=>absurd (m j (qad O)) A
 have s: ∀(c:Array Bool),c.size=ops.length->Region.ready .any ops.toArray c= []-> ∀k,k < ops.length->c.getD k Z=Y:=by
  intro c C G k;induction k using Nat.strongRecOn with
  | ind k B=>
    intro p;cases hl:c.getD k Z with
    | true=>rfl
    | false=>
      exfalso;have:k∈Region.ready .any ops.toArray c:=by
       rw[mem_ready];refine⟨by rw[n c k wa];exact hl,ops[k],by simp[p],λe R z=>?_⟩;have H:=E.low k ops[k] (by simp[p]) e (by simpa using R) z;exact B e.on H wa
      rw[G] at this;cases this
 have v: ∀(l:List Bool),(l.filter (·==Y)).length=l.length-> ∀k,k < l.length->(l[k]?).getD Z=Y:=by
  intro l;induction l with
  | nil=>intro _ k p;simp at p
  | cons b l B=>
    intro h k p;have T:=List.length_filter_le (·==Y) l;cases b with
    | true=>
      simp only[Kp,beq_self_eq_true,if_true,List.length_cons] at h;cases k with
      | zero=>simp
      | succ k=>simpa using B wa k (by simpa using p)
    | false=>
      simp at h;simp at T;omega
 have I: ∀(l:List Bool) (i:Nat),l[i]? =V Z->((l.set i Y).filter (·==Y)).length=(l.filter (·==Y)).length+1:=by
  intro l;induction l with
  | nil=>intro i h;simp at h
  | cons b l B=>
    intro i h;cases i with
    | zero=>simp at h;subst h;simp
    | succ i=>
      have:=B i wE;simp only[List.set_cons_succ,Kp];split<;>simp_all
 intro g;induction g with
 | zero=>
   intro c M a C hn q;have m: ∀k,k < ops.length->c.getD k Z=Y:=by
    intro k p;have:=v c.toList (by simpa[C] using hn) k (by simpa[C] using p);simpa using this
   refine⟨?_,y c M a m q⟩;cases G:Region.ready .any ops.toArray c with
   | nil=>rfl
   | cons k r=>
     exfalso;have p:k∈Region.ready .any ops.toArray c:=by rw[G];simp
     obtain⟨L,o,D,_⟩:=mem_ready.1 p;have K:k < ops.length:=by simp only[Kf] at D;exact qad D
     rw[n c k wa,m k K] at L;cases L
 | succ g B=>
   intro c M a C hn q;refine⟨λG=>y c M a (s c C G) q,λi hi=>?_⟩;obtain⟨L,o,D,W⟩:=mem_ready.1 hi;simp only[Kf] at D;have K:=qad D;have d:c.getD i Z=Z:=by rw[<-n c i wa];exact L
   refine q.step N E F hc D (λe R z=>W e (by simpa using R) z) d λM' a' X=>?_;refine B _ M' a' (by simpa using C) ?_ ?_
   .have z:c.toList[i]? =V Z:=by
     have w:i < c.size:=wa
     simp[w] at d;simp[w,d]
    have:=I c.toList i z;simp only[Array.toList_setIfInBounds];omega
   .have:(λk=>(c.setIfInBounds i Y).getD k Z)=λk=>if k=i then Y else c.getD k Z:=by
     funext k;by_cases e:k=i
     .subst e;have w:k < c.size:=wa
      simp[w]
     .rw[getD_set_ne Z (Ne.symm e),if_neg e]
    rw[this];exact X
theorem qfw{id k Q}(m:P.follows .mixedOrders=Y)(g:stat ops u=Y)(n:qaH P h0 ops.toArray ops S frs S')(p:chk u (frs.map FR.fp))
  (h:IRun P h0 k S' Q):IRun P h0 (.code (.region id ops.toArray Y)::k) S Q:=by
 intro M0 q M a r c ro j;refine wpIn_region_any m ?_;have:=qpo (M0:=M0) (ro:=ro) j (qjV g) n p (Q:=qcR h0 M0 λe S=>after P h0 Q k e S) (λs D y d=>⟨s,S',rfl,y,d,h⟩) ops.length (KF ops.length Z)
  {M with w:=M.w.drew} a wb wb ?_
 .simp_all
 .have f:(λk=>(KF ops.length Z).getD k Z)=λ_=>Z:=by
   simp
   grind
  rw[f];exact⟨r.trans (.drew M),c.heap.rel.drew,λb z=> .inl (c.heap.A b z),λb=>(by rw[qcx];exact c.heap.G b),c.size,
   λt x l=>(by rw[qb2] at l;obtain⟨v,A,B⟩:=c.slot t x l;exact⟨v,A,B.step (.drew M)⟩),c.defs.step (.drew M),λi o E C=>wg⟩
end
def DRun(P:Program)(h0:IH)(b:Array Oper)(l:List Oper)(S:qab)(c:List FP)(K:qab->List FP->Prop):Prop:=
 ∃frs S',qaH P h0 b l S frs S'/\K S' (c++frs.map FR.fp)
def drun_nil{c S b K}(h:K S b):DRun P h0 c [] S b K:=⟨[],S, .nil S,wg⟩
def drun_op{b o r S c K fr}(f:qam b S.s o=V Y)
  (g:fop P (ev S.s) (look (S.l++h0.m)) S.nx b o.dst o.op=V fr) (i:dOk S.n o.dst=Y)
  (h:DRun P h0 b r ⟨S.n,putS o.dst fr.x S.s,S.d,S.nx+fr.F.length,fr.W.reverse++S.l⟩ (c++ [fr.fp]) K):DRun P h0 b (o::r) S c K:=by
 obtain⟨frs,S',j,k⟩:=h;obtain⟨e,d⟩:=qet g;exact⟨fr::frs,S', .op f (qbl.loc e) d.G i j,wg⟩
def drun_skip{b o r S c K}(d:qam b S.s o=V Z)(e:dOk S.n o.dst=Y)
  (h:DRun P h0 b r ⟨S.n,putS o.dst (.tup []) S.s,S.d,S.nx,S.l⟩ (c++ [([], [])]) K):DRun P h0 b (o::r) S c K:=by
 obtain⟨frs,S',f,g⟩:=h;exact⟨_::frs,S', .skip d e f,by simpa[FR.fp] using g⟩
def qjf{b dst ty c d g r S e K f args ts n zs x R}
  (i:qam b S.s ⟨dst, .call {callee:= .value f,args:=⟨args⟩,argTypes:=ts},ty,c,d,g⟩=V Y) (j:qao (ev S.s) f args=V (n,zs)) (k:fnOk P n=Y) (l:dOk S.n dst=Y)
  (m: ∀p∈R,look (S.l++h0.m) p.1=V p.2) (hp:PCall P n zs R x) (o:bel 0 x)
  (h:DRun P h0 b r ⟨S.n,putS dst x S.s,S.d,S.nx,S.l⟩ (e++ [(R.map (·.1), [])]) K):
  DRun P h0 b (⟨dst, .call {callee:= .value f,args:=⟨args⟩,argTypes:=ts},ty,c,d,g⟩::r) S e K:=by
 obtain⟨frs,S',q,s⟩:=h;refine⟨{x,R}::frs,S', .op i (PCall.loc rfl j k o hp) (FR.fits.G ⟨m, .inl ⟨rfl,wb⟩⟩) l ?_,by simpa[FR.fp] using s⟩
 grind
def dvc(P:Program)(h0:IH)(c:Array Oper)(K:qab->List FP->Prop):List Oper->qab->List FP->Prop
 | [],S,e=>K S e
 | ⟨d,o,t,p,f,U⟩::r,S,e=>
   qas (fop P (ev S.s) (look (S.l++h0.m)) S.nx c d o)
    (λh=>if dOk S.n d then dvc P h0 c K r ⟨S.n,putS d h.x S.s,S.d,S.nx+h.F.length,h.W.reverse++S.l⟩ (e++ [h.fp]) else False)
    (DRun P h0 c (⟨d,o,t,p,f,U⟩::r) S e K)
 | ⟨d,o,t,p,f,V g⟩::r,S,e=>
   qas (qam c S.s ⟨d,o,t,p,f,V g⟩)
    (λb=>qbD b
     (qas (fop P (ev S.s) (look (S.l++h0.m)) S.nx c d o)
      (λh=>if dOk S.n d then dvc P h0 c K r ⟨S.n,putS d h.x S.s,S.d,S.nx+h.F.length,h.W.reverse++S.l⟩ (e++ [h.fp]) else False)
      (DRun P h0 c (⟨d,o,t,p,f,V g⟩::r) S e K))
     (if dOk S.n d then dvc P h0 c K r ⟨S.n,putS d (.tup []) S.s,S.d,S.nx,S.l⟩ (e++ [([], [])]) else False))
    (DRun P h0 c (⟨d,o,t,p,f,V g⟩::r) S e K)
def qpr{b o r S c K}(e:qam b S.s o=V Y)
  (i: ∀S c,dvc P h0 b K r S c->DRun P h0 b r S c K)
  (h:qas (fop P (ev S.s) (look (S.l++h0.m)) S.nx b o.dst o.op)
   (λfr=>if dOk S.n o.dst then dvc P h0 b K r ⟨S.n,putS o.dst fr.x S.s,S.d,S.nx+fr.F.length,fr.W.reverse++S.l⟩ (c++ [fr.fp]) else False)
   (DRun P h0 b (o::r) S c K)):DRun P h0 b (o::r) S c K:=by
 cases d:fop P (ev S.s) (look (S.l++h0.m)) S.nx b o.dst o.op with
 | none=>rw[d] at h;exact h
 | some fr=>
   rw[d,qaQ] at h;split at h
   .rename_i f;exact drun_op e d f (i _ _ h)
   grind
def dvc_sound{d K}: ∀(l S c),dvc P h0 d K l S c->DRun P h0 d l S c K:=by
 intro l;induction l with
 | nil=>intro S c h;exact drun_nil h
 | cons o r i=>
   intro S c h;obtain⟨f,k,t,p,j,g⟩:=o;cases g with
   | none=>exact qpr rfl i h
   | some g=>
     simp only[dvc] at h;cases e:qam d S.s ⟨f,k,t,p,j,V g⟩ with
     | none=>rw[e,qeH] at h;omega
     | some b=>
       rw[e,qaQ] at h;cases b with
       | true=>exact qpr e i h
       | false=>
         simp only[qbD,KJ,if_false] at h;split at h
         .rename_i m;exact drun_skip e m (i _ _ h)
         grind
def irun_walk{ops id n k S Q}(u)(c:P.follows .mixedOrders=Y)(b:stat ops u=Y)
  (h:dvc P h0 ops.toArray (λS' f=>chk u f/\vc P h0 Q n k S') ops S []):IRun P h0 (.code (.region id ops.toArray Y)::k) S Q:=by
 obtain⟨frs,S',d,e,g⟩:=dvc_sound _ _ _ h;exact qfw c b d wg (vc_sound Q n k S' g)
end Go.Idl
namespace Go.Idl
section
variable{P:Program}{h0:IH}{all:Array Oper}{K:qab->List FP->Prop}{r:List Oper}{dst:Option Tmp}{op:Op}{ty:TypeId}{pos:String}{aft:Array Edge}{N:Nat}{s:List (Nat × IV)}{d:List IDef}{nx:Nat}{l:List (Nat × IBlk)}{acc:List FP}
@[go_sem ↓] theorem dvc_nil{S}:dvc P h0 all K [] S acc=K S acc:=(rfl)
def qcE(P:Program)(h0:IH)(all:Array Oper)(K:qab->List FP->Prop)(o:Oper)(r:List Oper)(N:Nat)(s:List (Nat × IV))(d:List IDef)(nx:Nat)(l:List (Nat × IBlk))(acc:List FP)(x:Option FR):Prop:=
 qas x (λf=>if dOk N o.dst then dvc P h0 all K r ⟨N,putS o.dst f.x s,d,nx+f.F.length,f.W.reverse++l⟩ (acc++ [f.fp]) else False)
  (DRun P h0 all (o::r) ⟨N,s,d,nx,l⟩ acc K)
@[go_sem ↓] theorem dvc_ops:dvc P h0 all K (⟨dst,op,ty,pos,aft,U⟩::r) ⟨N,s,d,nx,l⟩ acc=
  qcE P h0 all K ⟨dst,op,ty,pos,aft,U⟩ r N s d nx l acc (fop P (ev s) (look (l++h0.m)) nx all dst op):=(rfl)
@[go_sem ↓] theorem qsX{g t x R W F}:
  qcE P h0 all K ⟨V t,op,ty,pos,aft,g⟩ r N s d nx l acc (V ⟨x,R,F,W⟩)=
   if t < N then dvc P h0 all K r ⟨N,(t,x)::s,d,nx+F.length,W.reverse++l⟩ (acc++ [(R.map (·.1),W.map (·.1))]) else False:=by simp[qcE,qas,dOk,putS,FR.fp]
@[go_sem ↓] theorem qsW{g x R W F}:
  qcE P h0 all K ⟨U,op,ty,pos,aft,g⟩ r N s d nx l acc (V ⟨x,R,F,W⟩)=
   dvc P h0 all K r ⟨N,s,d,nx+F.length,W.reverse++l⟩ (acc++ [(R.map (·.1),W.map (·.1))]):=wv
@[go_sem ↓] theorem qsO{o}:qcE P h0 all K o r N s d nx l acc U=DRun P h0 all (o::r) ⟨N,s,d,nx,l⟩ acc K:=(rfl)
theorem qj2{o x x'}(h:x=x'):qcE P h0 all K o r N s d nx l acc x=qcE P h0 all K o r N s d nx l acc x':=wy
def qb6(P:Program)(h0:IH)(all:Array Oper)(K:qab->List FP->Prop)(o:Oper)(r:List Oper)(N:Nat)(s:List (Nat × IV))(d:List IDef)(nx:Nat)(l:List (Nat × IBlk))(acc:List FP)(x:Option Bool):Prop:=
 qas x (λb=>qbD b (qcE P h0 all K o r N s d nx l acc (fop P (ev s) (look (l++h0.m)) nx all o.dst o.op))
  (if dOk N o.dst then dvc P h0 all K r ⟨N,putS o.dst (.tup []) s,d,nx,l⟩ (acc++ [([], [])]) else False)) (DRun P h0 all (o::r) ⟨N,s,d,nx,l⟩ acc K)
@[go_sem ↓] theorem qsJ{g}:dvc P h0 all K (⟨dst,op,ty,pos,aft,V g⟩::r) ⟨N,s,d,nx,l⟩ acc=
  qb6 P h0 all K ⟨dst,op,ty,pos,aft,V g⟩ r N s d nx l acc (qam all s ⟨dst,op,ty,pos,aft,V g⟩):=(rfl)
@[go_sem ↓] theorem qrE{o}:qb6 P h0 all K o r N s d nx l acc (V Y)=qcE P h0 all K o r N s d nx l acc (fop P (ev s) (look (l++h0.m)) nx all o.dst o.op):=(rfl)
@[go_sem ↓] theorem qqu{g t}:qb6 P h0 all K ⟨V t,op,ty,pos,aft,g⟩ r N s d nx l acc (V Z)=
  if t < N then dvc P h0 all K r ⟨N,(t, .tup [])::s,d,nx,l⟩ (acc++ [([], [])]) else False:=by simp[qb6,qas,qbD,dOk,putS]
@[go_sem ↓] theorem qrD{g}:qb6 P h0 all K ⟨U,op,ty,pos,aft,g⟩ r N s d nx l acc (V Z)=dvc P h0 all K r ⟨N,s,d,nx,l⟩ (acc++ [([], [])]):=wv
theorem qhz{o x x'}(h:x=x'):qb6 P h0 all K o r N s d nx l acc x=qb6 P h0 all K o r N s d nx l acc x':=wy
theorem qoe{S S'}(h:S=S'):DRun P h0 all r S acc K=DRun P h0 all r S' acc K:=wy
end
section
variable{P:Program}{h0:IH}{Q:Exit->qab->Prop}{n:Nat}{k:List It}{all:Array Oper}{r:List Oper}{dst:Option Tmp}{op:Op}{ty:TypeId}{pos:String}{aft:Array Edge}{N:Nat}{s:List (Nat × IV)}{d:List IDef}{nx:Nat}{l:List (Nat × IBlk)}
theorem qmf(n){g f args ts c zs x R}
  (a:qao (ev s) f args=V (c,zs)) (hp:PCall P c zs R x) (b: ∀p∈R,look (l++h0.m) p.1=V p.2)
  (e:qam all s ⟨dst, .call {callee:= .value f,args:=⟨args⟩,argTypes:=ts},ty,pos,aft,g⟩=V Y) (i:fnOk P c=Y) (j:dOk N dst=Y)
  (h:vc P h0 Q n (.ops all r::k) ⟨N,putS dst x s,d,nx,l⟩):
  IRun P h0 (.ops all (⟨dst, .call {callee:= .value f,args:=⟨args⟩,argTypes:=ts},ty,pos,aft,g⟩::r)::k) ⟨N,s,d,nx,l⟩ Q:=
 qoo e a i j b hp (vc_sound Q n _ _ h)
theorem qiJ{g f args ts c zs x R acc K}
  (a:qao (ev s) f args=V (c,zs)) (hp:PCall P c zs R x) (b: ∀p∈R,look (l++h0.m) p.1=V p.2)
  (e:qam all s ⟨dst, .call {callee:= .value f,args:=⟨args⟩,argTypes:=ts},ty,pos,aft,g⟩=V Y) (i:fnOk P c=Y) (j:dOk N dst=Y) (m:bel 0 x)
  (h:dvc P h0 all K r ⟨N,putS dst x s,d,nx,l⟩ (acc++ [(R.map (·.1), [])])):
  DRun P h0 all (⟨dst, .call {callee:= .value f,args:=⟨args⟩,argTypes:=ts},ty,pos,aft,g⟩::r) ⟨N,s,d,nx,l⟩ acc K:=
 qjf e a i j b hp m (dvc_sound _ _ _ h)
end
attribute [congr] qj2 qhz qoe
attribute [go_sem] qao chk qfg chk1 apL apF putS dOk
abbrev Pure(P:Program)(f:FuncId)(args:List IV)(x:IV):Prop:=PCall P f args [] x
end Go.Idl
namespace Go.Idl
variable{P:Program}{h0:IH}
mutual
def psm:PV->Prop
 | .imm _ rows=>rows.length<=maxLen/\pssm rows
 | .rp cells=>plsm cells
 | .nan _=>True
 | .emp=>True
 | .sc _=>True
def plsm:List PV->Prop
 | []=>True
 | x::r=>psm x/\plsm r
def pssm:List (List PV)->Prop
 | []=>True
 | x::r=>plsm x/\pssm r
end
def qi0: ∀ {l},(∀(j:Nat) (x),l[j]? =V x->psm x)->plsm l
 | [],_=>trivial
 | y::l,h=>⟨h 0 y rfl,qi0 λj x a=>h (j+1) x wg⟩
def qnx: ∀ {l},(∀(i:Nat) (r) (j:Nat) (x),l[i]? =V r->r[j]? =V x->psm x)->pssm l
 | [],_=>trivial
 | y::l,h=>⟨qi0 λj x a=>h 0 y j x rfl a,qnx λi r j x b a=>h (i+1) r j x wg a⟩
def PRel.small{w d x v}(h:PRel w d x v):psm x:=by
 induction h with
 | sc v=>trivial
 | emp a=>trivial
 | imm z m a n c o f p q s A t u e=>exact⟨Nat.le_trans p q,qnx λi r j x y g=>e i r j x y g⟩
 | rp l c o f s t u e=>exact qi0 λj x g=>e j x g
 | nan k b h=>trivial
mutual
def ism:IV->Prop
 | .p x=>psm x
 | .agg cs=>isms cs
 | .tup cs=>isms cs
 | .ref .. =>True
 | .ptr .. =>True
 | .mp _=>True
 | .clo .. =>True
 | .dead=>True
def isms:List IV->Prop
 | []=>True
 | x::r=>ism x/\isms r
end
def qds: ∀ {l},(∀(j:Nat) (x),l[j]? =V x->ism x)->isms l
 | [],_=>trivial
 | y::l,h=>⟨h 0 y rfl,qds λj x a=>h (j+1) x wg⟩
def VRel.small{M x v}(h:VRel M x v):ism x:=by
 induction h with
 | p x v h=>exact h.small
 | ref b g o l v c k h=>trivial
 | ptr b g r j v c k h=>trivial
 | mp b v c k h=>trivial
 | clo s first m t vc u w y z A B=>trivial
 | agg n q e C r f=>
   refine qds λi x d=>?_;have a:=qad d;rw[<-e] at a;exact f i x _ d (Ka a)
 | tup n q e r f=>
   refine qds λi x d=>?_;have a:=qad d;rw[<-e] at a;exact f i x _ d (Ka a)
 | dead v=>trivial
def Live:List It->Prop
 | .code _::_=>True
 | .ops _ _::_=>True
 | _=>False
def Gho(h0:IH)(S S':qab):Prop:= ∀M a,SRel h0 S M a-> ∃b,b.w=M.w/\qaf M b/\SRel h0 S' b a
def qhH{k S S' Q}(m:Live k)(n:Gho h0 S S')(h:IRun P h0 k S' Q):IRun P h0 k S Q:=by
 cases k with
 | nil=>exact m.elim
 | cons y k=>
   cases y with
   | code c=>
     intro f b M a g i;obtain⟨j,e,s,d⟩:=n M a i;rw[<-e];exact h f b j a (g.trans s) d
   | blk id=>exact m.elim
   | ops o l=>
     intro f b M a g i;obtain⟨j,e,s,d⟩:=n M a i;rw[<-e];exact h f b j a (g.trans s) d
def qr6{S}(t sz){x}(k:look S.s t=V x)(l:x= .p .emp\/x= .p (.sc (.slice U 0 0))):
  Gho h0 S ⟨S.n,(t, .ref S.nx 0 0 0)::S.s,S.d,S.nx+1,(S.nx, .arr sz 0 [])::S.l⟩:=by
 intro M a d;have m:=λh=>KA _ (d.heap.A _ h)
 obtain⟨s,r⟩:=qeG d.heap.rel S.nx m sz 0;obtain⟨v,n,j⟩:=d.slot t x k;have o: ∃c,v= .slice c 0 0:=by
  rcases l with rfl | rfl
  .cases j with
   | p x v h=>cases h<;>simp
  .have:=j.sc_inv;simp_all
 obtain⟨c,rfl⟩:=o;refine⟨⟨M.w,M.H.put S.nx (.arr sz 0 []),putβ M.β S.nx U⟩,rfl,s,⟨⟨r,λb f=>?_,λb=>?_⟩,d.size,λi y g=>?_,d.defs.step s⟩⟩
 .rcases f with f | rfl
  .exact KD (d.heap.A b f)
  simp
 .simp[AH.put,Kq,look];by_cases e:b=S.nx
  .simp_all
  .rw[if_neg e,if_neg (λh=>e h.symm),d.heap.G]
 .simp[look] at g;split at g
  .rename_i e;subst e;cases g;refine⟨_,n, .ref _ _ _ _ _ (.inr rfl) ⟨c,0,rfl⟩ λq f=>?_⟩;simp[AH.put,if_true,Option.some.injEq] at f;subst f;exact⟨Kw _,λ_=>⟨c,0,rfl,Kw _,Kw _,Kw _, .inl rfl⟩⟩
  .obtain⟨v,w,u⟩:=d.slot i y g;exact⟨v,w,u.step s⟩
def walk_own(t sz){k N s d nx l Q}(a:Live k){x}(b:look s t=V x)(c:x= .p .emp\/x= .p (.sc (.slice U 0 0)))
  (h:IRun P h0 k ⟨N,(t, .ref nx 0 0 0)::s,d,nx+1,(nx, .arr sz 0 [])::l⟩ Q):IRun P h0 k ⟨N,s,d,nx,l⟩ Q:=
 qhH a (qr6 (S:=⟨N,s,d,nx,l⟩) t sz b c) h
def qqK{S:qab}(m r j sz:Nat){A L:Nat}{d:List (List IV)}{g:List IV}{x:IV}(a0:look (S.l++h0.m) m=V (.arr A L d))(k:d[r]? =V g)(hx:g[j]? =V x)
  (he:x= .p .emp\/x= .p (.sc (.slice U 0 0))):
  Gho h0 S ⟨S.n,S.s,S.d,S.nx+1,(m, .arr A L (d.set r (g.set j (.ref S.nx 0 0 0))))::(S.nx, .arr sz 0 [])::S.l⟩:=by
 intro M a D;have hA: ¬M.H.A S.nx:=λh=>KA _ (D.heap.A _ h)
 obtain⟨st,t⟩:=qeG D.heap.rel S.nx hA sz 0;have N:M.H.G m=V (.arr A L d):=by rw[D.heap.G];exact a0
 have O:m≠S.nx:=λe=>hA (e ▸D.heap.rel.dom m _ N)
 generalize l:(⟨M.w,M.H.put S.nx (.arr sz 0 []),putβ M.β S.nx U⟩:Mem)=w at st t;have a1:w.w=M.w:=by rw[<-l]
 have u:w.H.G m=V (.arr A L d):=by rw[<-l];simp[AH.put,O,N]
 have a2:w.H.G S.nx=V (.arr sz 0 []):=by rw[<-l];simp[AH.put]
 have a3:w.H.A S.nx:=by rw[<-l];exact .inr rfl
 have Q:w.β S.nx=U:=by rw[<-l];simp[putβ]
 have R: ∀b,w.H.A b->b < S.nx+1:=by
  intro b B;rw[<-l] at B;rcases B with B | rfl
  .exact KD (D.heap.A b B)
  .exact Nat.lt_succ_self _
 have a4: ∀b,w.H.G b=if b=S.nx then V (.arr sz 0 []) else look (S.l++h0.m) b:=by
  intro b;rw[<-l];simp only[AH.put];by_cases e:b=S.nx
  .simp[e]
  .rw[if_neg e,if_neg e,D.heap.G]
 have T:(d.set r (g.set j (.ref S.nx 0 0 0))).length=d.length:=wb
 let z:Mem:=⟨w.w,w.H.put m (.arr A L (d.set r (g.set j (.ref S.nx 0 0 0)))),w.β⟩;have W: ∀c,z.own c->w.own c:=by
  rintro c (h | ⟨b,E,o,n,h1,h2⟩)
  .exact .inl h
  .by_cases e:b=m
   .subst e;exact .inr ⟨b,_,o,n,u,h2⟩
   .simp only[z,AH.put,e,if_false] at h1;exact .inr ⟨b,E,o,n,h1,h2⟩
 have H:qaf w z:=by
  refine⟨rfl,rfl,rfl,Kw _,λc _ ho=>⟨rfl,λh=>ho (W c h)⟩,λ_ h=> .inl h,λb q a6 f=>?_,rfl,λ_ _=>rfl⟩;by_cases e:b=m
  .subst e;simp only[z,AH.put,if_true,Option.some.injEq] at f;subst f;exact⟨_,u,rfl,rfl,Kw _,λ_=>⟨rfl,wQ⟩⟩
  .simp only[z,AH.put,e,if_false] at f;exact⟨q,f,rfl,rfl,Kw _,λ_=>⟨rfl,rfl⟩⟩
 have X:MRel z:=by
  refine t.change H m (.inr rfl) (λb' e=>by simp[z,AH.put,e]) (λ_ _=>rfl) (λ_ _ _ _ _ _ _ _=>rfl) (λq f=>?_) (λq c o n f F b' E o' n' e h1 h2=>?_) (λq c o n f F=>?_)
  .simp only[z,AH.put,if_true,Option.some.injEq] at f;subst f;have s:=t.blk m _ u;refine⟨λC a5=>?_,λhn=>?_,λc o n hc=>?_⟩
   .rcases List.mem_or_eq_of_mem_set a5 with h | rfl
    .exact s.1 C h
    .simpa using s.1 g (Kb k)
   .have:=s.2.1 hn;rw[this] at k;simp at k
   .obtain⟨cs,ty,q1,q2,q3,q4,q5⟩:=s.2.2 c o n hc;refine⟨cs,ty,q1,by rw[T];exact q2,q3,q4,λi C j' x' I G=>?_⟩;rw[Kr] at I;split at I
    .rename_i e;subst e;split at I
     .cases I;rw[Kr] at G;split at G
      .rename_i e;subst e;split at G
       .cases G;obtain⟨v,v1,v2,K⟩:=q5 r g j x k hx;have hv: ∃c,v= .slice c 0 0:=by
         rcases he with rfl | rfl
         .cases K with
          | p x v h=>cases h with
            | emp c=>exact⟨c,rfl⟩
         .have:=K.sc_inv;subst this;exact⟨U,rfl⟩
        obtain⟨c',rfl⟩:=hv;refine⟨_,v1,v2, .ref _ _ _ _ _ (.inl a3) ⟨c',0,rfl⟩ λE B=>?_⟩;simp only[z,AH.put,if_neg (Ne.symm O),a2,Option.some.injEq] at B;subst B;exact⟨Kw _,λ_=>⟨c',0,rfl,Kw _,Kw _,Kw _, .inl (by simp[z,Q])⟩⟩
       .cases G
      .obtain⟨v,v1,v2,K⟩:=q5 r g j' x' k G;exact⟨v,v1,v2,K.step H⟩
     .cases I
    .obtain⟨v,v1,v2,K⟩:=q5 i C j' x' I G;exact⟨v,v1,v2,K.step H⟩
  .exact e (t.inj b' m E _ c o' n' o n h1 u h2 F)
  .exact t.odis m _ c o n u F
 refine⟨z,a1,st.trans H,⟨⟨X,λb B=>?_,λb=>?_⟩,D.size,λi y hy=>?_,D.defs.step (st.trans H)⟩⟩
 .rcases B with B | rfl
  .exact R b B
  .exact R _ (t.dom _ _ u)
 .simp only[z,AH.put,Kq,look];by_cases e:b=m
  .subst e;simp
  .rw[if_neg e,if_neg (λh=>e h.symm),a4 b];by_cases e2:b=S.nx
   .simp[e2]
   .rw[if_neg e2,if_neg (λh=>e2 h.symm)]
 .obtain⟨v,w1,w2⟩:=D.slot i y hy;exact⟨v,w1,w2.step (st.trans H)⟩
def walk_ownB(f r j sz){k N s d nx l Q}(m:Live k){c i a b x}
  (g:look (l++h0.m) f=V (.arr c i a)) (e:a[r]? =V b) (n:b[j]? =V x) (o:x= .p .emp\/x= .p (.sc (.slice U 0 0)))
  (h:IRun P h0 k ⟨N,s,d,nx+1,(f, .arr c i (a.set r (b.set j (.ref nx 0 0 0))))::(nx, .arr sz 0 [])::l⟩ Q):IRun P h0 k ⟨N,s,d,nx,l⟩ Q:=
 qhH m (qqK (S:=⟨N,s,d,nx,l⟩) f r j sz g e n o) h
def wkp(a b:PV):Prop:=a=b\/(a= .emp\/a= .sc (.slice U 0 0))/\ ∃s,b= .imm s []
mutual
def wk:IV->IV->Prop
 | .p a,y=>match y with
   | .p b=>wkp a b
   | _=>False
 | .agg xs,y=>match y with
   | .agg ys=>wks xs ys
   | _=>False
 | .tup xs,y=>match y with
   | .tup ys=>wks xs ys
   | _=>False
 | .ref b g o l,y=> .ref b g o l=y
 | .ptr b g o l,y=> .ptr b g o l=y
 | .mp b,y=> .mp b=y
 | .clo f x c,y=> .clo f x c=y
 | .dead,y=> .dead=y
def wks:List IV->List IV->Prop
 | [],y=>y= []
 | x::xs,y=>match y with
   | y::ys=>wk x y/\wks xs ys
   | []=>False
end
def wk_refl(x):wk x x:=by
 apply IV.rec (motive_1:=λx=>wk x x) (motive_2:=λl=>wks l l)
 .intro a;exact .inl rfl
 .intros;rfl
 .intros;rfl
 .intros;rfl
 .intros;rfl
 .intro c h;exact h
 .intro c h;exact h
 .rfl
 .rfl
 .intro x l i b;exact⟨i,b⟩
def wks_refl: ∀(l),wks l l
 | []=>rfl
 | x::l=>⟨wk_refl x,wks_refl l⟩
def qch: ∀ {l m},wks l m->m.length=l.length/\ ∀(i:Nat) (x y),l[i]? =V x->m[i]? =V y->wk x y
 | [],m,h=>by simp[wks] at h;grind
 | x::l, [],h=>by simp[wks] at h
 | x::l,y::m,h=>by
   obtain⟨e,f⟩:=qch h.2;refine⟨wg,λi a b c d=>?_⟩;cases i with
   | zero=>simp at c d;subst c;subst d;exact h.1
   | succ i=>grind
def wk_fz{G ids}(x): ∀y,wk x y->Fz G ids x y:=by
 apply IV.rec (motive_1:=λx=> ∀y,wk x y->Fz G ids x y) (motive_2:=λl=> ∀x∈l,∀y,wk x y->Fz G ids x y)
 .intro a y h;cases y<;>simp[wk] at h
  rcases h with rfl | ⟨h,s,rfl⟩
  .exact .refl _
  .exact .nil a s h
 .intro b g o e y h;subst h;exact .refl _
 .intro b g o e y h;cases h;exact .refl _
 .intro b y h;cases h;exact .refl _
 .intro u f c _ _ y h;subst h;exact .refl _
 .intro q j y h;cases y<;>simp[wk] at h
  obtain⟨k,m⟩:=qch h;exact .agg _ _ k λi x y d n=>j x (Kb d) y (m i x y d n)
 .intro q j y h;cases y<;>simp[wk] at h
  obtain⟨k,m⟩:=qch h;exact .tup _ _ k λi x y d n=>j x (Kb d) y (m i x y d n)
 .intro y h;subst h;exact .refl _
 .simp
 simp_all
theorem VRel.wk{M:Mem}{x:IV}{v:Value}(h:VRel M x v): ∀ {y:IV},wk x y->VRel M y v:=by
 induction h with
 | p a v h=>
   intro y d;cases y<;>simp only[Idl.wk] at d
   rcases d with rfl | ⟨w,z,rfl⟩
   .exact .p _ _ h
   .have: ∃c,v= .slice c 0 0:=by
     rcases w with rfl | rfl
     .cases h with
      | emp c=>exact⟨c,rfl⟩
     .cases h;exact⟨U,rfl⟩
    obtain⟨c,rfl⟩:=this;exact .p _ _ (.imm z [] c 0 0 0 (λ_ _=>undef) (Kw _) (Kz _) (λh=>absurd h wb) wb wb wb)
 | ref b g o l v e f h=>intro y d;simp only[Idl.wk] at d;subst d;exact .ref b g o l v e f h
 | ptr b g r j v e f h=>intro y d;simp only[Idl.wk] at d;subst d;exact .ptr b g r j v e f h
 | mp b v e f h=>intro y d;simp only[Idl.wk] at d;subst d;exact .mp b v e f h
 | clo A first m B vc C D E F K L=>intro y d;simp only[Idl.wk] at d;subst d;exact .clo A first m B vc C D E F
 | agg n q G H r s=>
   intro y d;cases y<;>simp only[Idl.wk] at d
   obtain⟨I,t⟩:=qch d;refine .agg _ q wa H λi y v d f=>?_
   grind
 | tup n q G r s=>
   intro y d;cases y<;>simp only[Idl.wk] at d
   obtain⟨I,t⟩:=qch d;refine .tup _ q wa λi y v d f=>?_
   grind
 | dead v=>intro y d;simp only[Idl.wk] at d;subst d;exact .dead v
def wkRs(a b:List (List IV)):Prop:=a=b\/b.length=a.length/\ ∀(i:Nat) (r c:List IV),a[i]? =V r->b[i]? =V c->wks r c
def wkB:IBlk->IBlk->Prop
 | .arr b g a,y=>match y with
   | .arr s c r=>b=s/\g=c/\wkRs a r
   | _=>False
 | .mp e,y=> .mp e=y
 | .ob k v,y=> .ob k v=y
def wkB_fz{G ids x y}(h:wkB x y):FzB G ids x y:=by
 cases x with
 | arr t g d=>
   cases y with
   | mp e=>exact h.elim
   | ob k v=>exact h.elim
   | arr s u a=>
     obtain⟨rfl,rfl,h⟩:=h;rcases h with rfl | ⟨f,l⟩
     .exact .refl _
     .refine⟨rfl,rfl,f,λi b r m c=>?_⟩;obtain⟨n,o⟩:=qch (l i b r m c);exact⟨n,λj x y p q=>wk_fz x y (o j x y p q)⟩
 | mp e=>subst h;exact .refl _
 | ob k v=>subst h;exact .refl _
section
variable{a b:PV}{x y:IV}{xs ys:List IV}{sz sz' g g':Nat}{rows rows':List (List PV)}{rs rs':List (List IV)}
@[go_sem] theorem wk_self:wk x x=True:=eq_true (wk_refl x)
@[go_sem] theorem wkp_self:wkp a a=True:=eq_true (.inl rfl)
@[go_sem] theorem wks_self:wks xs xs=True:=eq_true (wks_refl xs)
@[go_sem] theorem wkRs_self:wkRs rs rs=True:=eq_true (.inl rfl)
@[go_sem] theorem wk_p:wk (.p a) (.p b)=wkp a b:=wv
@[go_sem] theorem wk_agg:wk (.agg xs) (.agg ys)=wks xs ys:=wv
@[go_sem] theorem wk_tup:wk (.tup xs) (.tup ys)=wks xs ys:=wv
@[go_sem] theorem wks_cons:wks (x::xs) (y::ys)=(wk x y/\wks xs ys):=wv
@[go_sem] theorem wkp_nil:wkp (.sc (.slice U 0 0)) (.imm sz rows)=(rows= []):=by simp[wkp]
@[go_sem] theorem wkp_imm:wkp (.imm sz rows) (.imm sz' rows')=(sz=sz'/\rows=rows'):=by simp[wkp]
@[go_sem] theorem wkp_sc{u v}:wkp (.sc u) (.sc v)=(u=v):=by simp[wkp]
@[go_sem] theorem wkB_arr:wkB (.arr sz g rs) (.arr sz' g' rs')=(sz=sz'/\g=g'/\wkRs rs rs'):=wv
end
def qhb(S:qab)(nx:Nat):List (Nat × IV)->Prop
 | []=>True
 | (t,y)::r=>qas (look S.s t) (λz=>wk z y) False/\(nx=S.nx\/bel nx y)/\qhb S nx r
def qhX(S:qab)(m:List (Nat × IBlk))(nx:Nat):List (Nat × IBlk)->Prop
 | []=>True
 | (b,c)::r=>qas (look (S.l++m) b) (λz=>wkB z c) False/\(nx=S.nx\/b < nx/\blkBel nx c)/\qhX S m nx r
def qdX(n:Nat)(l':List (Nat × IBlk)):List (Nat × IBlk)->Prop
 | []=>True
 | (b,_)::r=>(n<=b\/ ∃c,(b,c)∈l')/\qdX n l' r
def qhu{S nx}: ∀ {s},qhb S nx s-> ∀p∈s,(∃z,look S.s p.1=V z/\wk z p.2)/\(nx=S.nx\/bel nx p.2)
 | [],_,p,c=>by grind
 | (t,y)::r,h,p,c=>by
   rcases List.mem_cons.1 c with rfl | c
   .refine⟨?_,h.2.1⟩;have:=h.1;cases d:look S.s t with
    | none=>rw[d] at this;exact this.elim
    | some z=>rw[d] at this;exact⟨z,rfl,this⟩
   .exact qhu h.2.2 p c
def qhY{S m nx}: ∀ {s},qhX S m nx s-> ∀p∈s,(∃z,look (S.l++m) p.1=V z/\wkB z p.2)/\(nx=S.nx\/p.1 < nx/\blkBel nx p.2)
 | [],_,p,c=>by grind
 | (t,y)::r,h,p,c=>by
   rcases List.mem_cons.1 c with rfl | c
   .refine⟨?_,h.2.1⟩;have:=h.1;cases d:look (S.l++m) t with
    | none=>rw[d] at this;exact this.elim
    | some z=>rw[d] at this;exact⟨z,rfl,this⟩
   .exact qhY h.2.2 p c
def oldIn_mem{n l'}: ∀ {s},qdX n l' s-> ∀p∈s,n<=p.1\/ ∃d,(p.1,d)∈l'
 | [],_,p,c=>by grind
 | (t,y)::r,h,p,c=>by
   rcases List.mem_cons.1 c with rfl | c
   .exact h.1
   .exact oldIn_mem h.2 p c
structure Cut(h0:IH)(S S':qab):Prop where
 n:S'.n=S.n
 d:S'.d=S.d
 dbel:S.d= []\/S'.nx=S.nx
 low:h0.nx<=S'.nx
 top:S'.nx<=S.nx
 slots:qhb S S'.nx S'.s
 blks:qhX S h0.m S'.nx S'.l
 others:qdX h0.nx S'.l S.l
def Cut.sub{S S'}(h:Cut h0 S S'):Sub h0 [] S S':=by
 refine⟨h.n,h.d,h.dbel,h.low,h.top,λp c=>?_,λp c=>?_,oldIn_mem h.others,wb⟩
 .obtain⟨⟨z,d,e⟩,f⟩:=qhu h.slots p c;exact⟨z,d,wk_fz _ _ e,f⟩
 .obtain⟨⟨z,d,e⟩,f⟩:=qhY h.blks p c;exact⟨z,d,wkB_fz e,f⟩
def qdV(P:Program)(h0:IH)(Q:Exit->qab->Prop)(n:Nat)(k:List It)(next:qab->Prop):Exit->qab->Prop
 | .normal,S=>next S
 | .exit id,S=>qen P h0 Q n id S (qbT id k)
 | .ret,S=>Q .ret S
 | .panic c,S=>Q (.panic c) S
 | e,S=>after P h0 Q k e S
section
variable{Q:Exit->qab->Prop}{n:Nat}{k:List It}{next:qab->Prop}{S:qab}
@[go_sem ↓] def qsP:qdV P h0 Q n k next .normal S=next S:=(rfl)
@[go_sem ↓] def qs8{id}:qdV P h0 Q n k next (.exit id) S=qen P h0 Q n id S (qbT id k):=(rfl)
@[go_sem ↓] def loopQ_ret:qdV P h0 Q n k next .ret S=Q .ret S:=(rfl)
end
def walk_loop{ι:Type}{c k S Q}(n m)(I:ι->Prop)(f:ι->qab)(j:ι->Nat)(p)(r:I p)(s:Cut h0 S (f p))
  (t: ∀i,I i->vc P h0 (qdV P h0 Q n k λS'=> ∃d,I d/\j d < j i/\Cut h0 S' (f d)) m [.code c] (f i)):IRun P h0 (.code (.loop c)::k) S Q:=by
 refine qjt (ι:= {i // I i}) (λi=>f i.1) (λi=>j i.1) ⟨p,r⟩ ⟨[],s.sub⟩ λ⟨i,q⟩=>?_;have:=vc_sound _ _ _ _ (t i q);refine qbi.mono this λe S' h=>?_;have h:qdV P h0 Q n k (λS'=> ∃d,I d/\j d < j i/\Cut h0 S' (f d)) e S':=h;cases e with
 | normal=>obtain⟨d,u,v,w⟩:=h;exact⟨⟨d,u⟩, [],v,w.sub⟩
 | exit id=>
   simp[qdV] at h;cases o:qbT id k with
   | none=>rw[o] at h;exact(show after P h0 Q k (.exit id) S' from after_exit_none o h)
   | some A=>rw[o] at h;exact(show after P h0 Q k (.exit id) S' from after_exit o (vc_sound Q n _ _ h))
 | ret=>exact(show after P h0 Q k .ret S' from after_ret h)
 | panic z=>exact(show after P h0 Q k (.panic z) S' from after_panic h)
 | goto l=>exact h
 | outgrown=>exact h
def irun_scope{c k S Q}(h:qbi P h0 c S λe S'=>match e with
  | .goto _=>False
  | e=>after P h0 Q k e S'):IRun P h0 (.code (.scope c)::k) S Q:=by
 intro q o M a r s t p;obtain rfl:t=U:=p.resolve_right ww;refine wpIn_wide.2 (wp_scope_straight (wp_mono (wpIn_wide.1 (h q o M a r s U (.inl rfl))) ?_));rintro e u w ⟨f,S',rfl,j,m,d⟩;cases e with
 | goto l=>grind
 | normal=>exact⟨f,S',rfl,j,m,d⟩
 | exit i=>exact⟨f,S',rfl,j,m,d⟩
 | ret=>exact⟨f,S',rfl,j,m,d⟩
 | panic v=>exact⟨f,S',rfl,j,m,d⟩
 | outgrown=>exact⟨f,S',rfl,j,m,d⟩
section
variable{Q:Exit->qab->Prop}{n:Nat}{k:List It}{S:qab}
end
def pvs2:List (List IV)->Option (List (List PV))
 | []=>V []
 | r::rs=>match pvs r,pvs2 rs with
   | some x,V xs=>V (x::xs)
   | _,_=>U
def qny: ∀ {l c},pvs2 l=V c->l=c.map (·.map .p)
 | [],c,h=>by simp_all[pvs2]
 | r::rs,c,h=>by
   unfold pvs2 at h;split at h
   .rename_i x xs d e;cases h;rw[qny e,qiu d];rfl
   grind
mutual
def frz(G:Nat->Option IBlk):IV->Option IV
 | .p x=>V (.p x)
 | .ref b g off len=>match G b with
   | some (.arr sz g' rows)=>if g=g' then(pvs2 ((rows.drop off).take len)).map λps=> .p (.imm sz ps) else U
   | _=>U
 | .ptr b g r j=>match G b with
   | some (.arr _ g' rows)=>if g=g' then match rows[r]? with
     | some row=>(pvs (row.drop j)).map λps=> .p (.rp ps)
     | none=>U
     else U
   | _=>U
 | .agg cs=>(frzs G cs).map .agg
 | .tup cs=>(frzs G cs).map .tup
 | .clo fn first cap=>match frzs G first,frzs G cap with
   | some f,V c=>V (.clo fn f c)
   | _,_=>U
 | _=>U
def frzs(G:Nat->Option IBlk):List IV->Option (List IV)
 | []=>V []
 | x::r=>match frz G x,frzs G r with
   | some y,V ys=>V (y::ys)
   | _,_=>U
end
mutual
def refs:IV->List Nat
 | .ref b _ _ _=> [b]
 | .ptr b _ _ _=> [b]
 | .agg cs=>qaN cs
 | .tup cs=>qaN cs
 | .clo _ first cap=>qaN first++qaN cap
 | _=> []
def qaN:List IV->List Nat
 | []=> []
 | x::r=>refs x++qaN r
end
def qdq{G}: ∀ {l ys},frzs G l=V ys->ys.length=l.length/\ ∀(i:Nat) (x y),l[i]? =V x->ys[i]? =V y->frz G x=V y
 | [],ys,h=>by simp_all[frzs]
 | x::r,ys,h=>by
   unfold frzs at h;split at h
   .rename_i y e f j;obtain⟨m,o⟩:=qdq j
    grind
   grind
def qbe{l}: ∀ {i:Nat} {x},l[i]? =V x-> ∀b∈refs x,b∈qaN l:=by induction l<;>grind[qaN]
def frz_Fz{G:Nat->Option IBlk}(x:IV): ∀y ids,frz G x=V y->(∀b∈refs x,b∈ids)->Fz G ids x y/\bel 0 y:=by
 apply IV.rec (motive_1:=λx=> ∀y ids,frz G x=V y->(∀b∈refs x,b∈ids)->Fz G ids x y/\bel 0 y)
  (motive_2:=λl=> ∀x∈l,∀y ids,frz G x=V y->(∀b∈refs x,b∈ids)->Fz G ids x y/\bel 0 y)
 .intro x y ids h _;simp only[frz,Option.some.injEq] at h;subst h;exact⟨.refl _,trivial⟩
 .intro b g D E y ids h p;simp only[frz] at h;split at h
  .rename_i sz g' rows o;split at h
   .rename_i e;subst e;simp only[Kt] at h;obtain⟨F,H,rfl⟩:=h;exact⟨.ref b g D E sz rows F o (p b (by simp[refs])) (qny H),trivial⟩
   .cases h
  .cases h
 .intro b g r j y ids h p;simp only[frz] at h;split at h
  .rename_i sz g' rows o;split at h
   .rename_i e;subst e;split at h
    .rename_i I u;simp only[Kt] at h;obtain⟨F,H,rfl⟩:=h;exact⟨.ptr b g r j sz rows I F o (p b (by simp[refs])) u (qiu H),trivial⟩
    .cases h
   .cases h
  .cases h
 .intro b y ids h;simp[frz] at h
 .intro N f c B C y ids h p;simp only[frz] at h;split at h
  .rename_i g d O R;cases h;obtain⟨v,s⟩:=qdq O;obtain⟨T,M⟩:=qdq R;simp only[refs,List.mem_append] at p;refine⟨.clo N f g c d v T (λi a b m o=>(B a (Kb m) b ids (s i a b m o) λc q=>p c (.inl (qbe m c q))).1)
    (λi a b m o=>(C a (Kb m) b ids (M i a b m o) λc q=>p c (.inr (qbe m c q))).1),bels_of λi b o=>?_,bels_of λi b o=>?_⟩
   .have t:=qad o;have m:=Ka (show i < f.length by omega);exact(B _ (Kb m) b ids (s i _ b m o) λc q=>p c (.inl (qbe m c q))).2
   .have t:=qad o;have m:=Ka (show i < c.length by omega);exact(C _ (Kb m) b ids (M i _ b m o) λc q=>p c (.inr (qbe m c q))).2
  .cases h
 .intro w A y ids h p;simp only[frz,Kt] at h;obtain⟨ys,K,rfl⟩:=h;obtain⟨v,s⟩:=qdq K;refine⟨.agg w ys v λi a b m o=>(A a (Kb m) b ids (s i a b m o) λc q=>p c (qbe m c q)).1,bels_of λi b o=>?_⟩;have t:=qad o;have m:=Ka (show i < w.length by omega);exact(A _ (Kb m) b ids (s i _ b m o) λc q=>p c (qbe m c q)).2
 .intro w A y ids h p;simp only[frz,Kt] at h;obtain⟨ys,K,rfl⟩:=h;obtain⟨v,s⟩:=qdq K;refine⟨.tup w ys v λi a b m o=>(A a (Kb m) b ids (s i a b m o) λc q=>p c (qbe m c q)).1,bels_of λi b o=>?_⟩;have t:=qad o;have m:=Ka (show i < w.length by omega);exact(A _ (Kb m) b ids (s i _ b m o) λc q=>p c (qbe m c q)).2
 .intro y ids h;simp[frz] at h
 .intro x W;cases W
 .intro x l B C z L;rcases List.mem_cons.1 L with rfl | L
  .exact B
  .exact C z L
def geAll(n:Nat):List Nat->Prop
 | []=>True
 | b::r=>n<=b/\geAll n r
def geAll_mem{n}: ∀ {l},geAll n l-> ∀b∈l,n<=b
 | [],_,b,d=>by grind
 | c::r,h,b,d=>by rcases List.mem_cons.1 d with rfl | d;exact h.1;exact geAll_mem h.2 b d
def leave_frz{h S x y}(e:S.d= [])(c:h.nx<=S.nx)(f:geAll h.nx (S.l.map (·.1)))(i:geAll h.nx (refs x))(j:frz (look (S.l++h.m)) x=V y):qcD h (refs x) S x y h.nx []:=by
 obtain⟨l,m⟩:=frz_Fz x y (refs x) j (λb d=>d);exact⟨⟨rfl,rfl, .inl e,Kw _,c,wb,wb,λp o=> .inl (geAll_mem f _ (List.mem_map_of_mem o)),λb d=>⟨geAll_mem i b d,wb⟩⟩,l, .inr (bel_mono (Kz _) _ m)⟩
def endP(P:Program)(fn:Func)(h:IH)(Q:IV->Prop)(S:qab):Prop:=
 qas (ires P S (S.l++h.m) fn.results.toList) (λx=>qas (frz (look (S.l++h.m)) x) (λy=>geAll h.nx (refs x)/\Q y) False) False
def qlk{fn h Q S}(e)(o:e= .normal\/e= .ret)(f:S.d= [])(d:h.nx<=S.nx)(m:geAll h.nx (S.l.map (·.1)))
  (c:endP P fn h Q S):qe9 P fn h (λr nx l=> ∃y,r= .ret y/\Q y/\nx=h.nx/\l= []) e S:=by
 unfold endP at c;cases i:ires P S (S.l++h.m) fn.results.toList with
 | none=>rw[i] at c;exact c.elim
 | some x=>
   rw[i,qaQ] at c;cases j:frz (look (S.l++h.m)) x with
   | none=>rw[j] at c;exact c.elim
   | some y=>
     rw[j] at c;rcases o with rfl | rfl
     .exact .norm S x y _ h.nx [] f i (leave_frz f d m c.1 j) ⟨y,rfl,c.2,rfl,rfl⟩
     .exact .ret S x y _ h.nx [] f i (leave_frz f d m c.1 j) ⟨y,rfl,c.2,rfl,rfl⟩
def EndP(P:Program)(fn:Func)(h:IH)(Q:IV->Prop):Exit->qab->Prop
 | .normal,S=>S.d= []/\h.nx<=S.nx/\geAll h.nx (S.l.map (·.1))/\endP P fn h Q S
 | .ret,S=>S.d= []/\h.nx<=S.nx/\geAll h.nx (S.l.map (·.1))/\endP P fn h Q S
 | _,_=>False
section
variable{fn:Func}{h:IH}{Q:IV->Prop}{N:Nat}{s:List (Nat × IV)}{d:List IDef}{nx:Nat}{l:List (Nat × IBlk)}
@[go_sem ↓] theorem qsU:EndP P fn h Q .normal ⟨N,s,d,nx,l⟩=(d= []/\h.nx<=nx/\geAll h.nx (l.map (·.1))/\endP P fn h Q ⟨N,s,d,nx,l⟩):=(rfl)
@[go_sem ↓] theorem EndP_ret:EndP P fn h Q .ret ⟨N,s,d,nx,l⟩=(d= []/\h.nx<=nx/\geAll h.nx (l.map (·.1))/\endP P fn h Q ⟨N,s,d,nx,l⟩):=(rfl)
@[go_sem ↓] theorem endP_eq:endP P fn h Q ⟨N,s,d,nx,l⟩=
  qas (ires P ⟨N,s,d,nx,l⟩ (l++h.m) fn.results.toList) (λx=>qas (frz (look (l++h.m)) x) (λy=>geAll h.nx (refs x)/\Q y) False) False:=(rfl)
end
def PCall.weak{f args c R x}(h:PCall P f c R x)(m:wks args c):PCall P f args R x:=by
 intro o p M q r A t;obtain⟨B,u⟩:=qch m;refine h o p M q r wa λi y v e w=>?_;have z:=qad e;have j:=Ka (show i < args.length by omega);exact(t i _ v j w).wk (u i _ y j e)
attribute [go_sem] ism isms psm plsm pssm qhb qhX qdX pvs2 frz frzs refs qaN geAll Live
end Go.Idl
namespace Go.Idl
def pr{a:Type}(f:a->List PV)(l:List a):List (List PV):=l.map f
def ir{b:Type}(f:b->List PV)(l:List b):List (List IV):=l.map λa=>(f a).map .p
section
variable{α:Type}{f:α->List PV}{l l':List α}{i k:Nat}{a:α}
@[go_sem] def qp5:(pr f l).length=l.length:=by simp[pr]
@[go_sem] def ir_length:(ir f l).length=l.length:=wA
def qai(h):(pr f l)[i]? =V (f l[i]):=by simp[pr,h]
def qag(h):(ir f l)[i]? =V ((f l[i]).map .p):=by simp[ir,h]
def qd6(h:l[i]? =V a):(pr f l)[i]? =V (f a):=by simp[pr,h]
def qiX(h:l[i]? =V a):(ir f l)[i]? =V ((f a).map .p):=by simp[ir,h]
@[go_sem] def pr_map:(pr f l).map (·.map .p)=ir f l:=by simp[pr,ir]
@[go_sem] def qnz: ∀ {x},pvs (x.map .p)=V x
  | []=>rfl
  | x::r=>by simp[pvs,qnz]
@[go_sem] def pvs2_ir:pvs2 (ir f l)=V (pr f l):=by
  induction l with
  | nil=>rfl
  | cons x l b=>
    have:ir f (x::l)=(f x).map .p::ir f l:=rfl;rw[this];simp[pvs2,qnz,b];rfl
def ir_snoc:ir f (l++ [a])=ir f l++ [(f a).map .p]:=wA
@[go_sem] def ir_append:ir f l++ir f l'=ir f (l++l'):=wA
@[go_sem] def pr_drop:(pr f l).drop k=pr f (l.drop k):=by simp[pr]
@[go_sem] def pr_take:(pr f l).take k=pr f (l.take k):=by simp[pr]
@[go_sem] def ir_drop:(ir f l).drop k=ir f (l.drop k):=wA
@[go_sem] def ir_take:(ir f l).take k=ir f (l.take k):=wA
@[go_sem] def ir_nil:ir f []= []:=rfl
@[go_sem] def qp6:pr f []= []:=rfl
@[go_sem] def pr_eq_nil:pr f l= []↔l= []:=by simp[pr]
def qlw:(ir f l).set i ((f a).map .p)=ir f (l.set i a):=wA
end
def eI(n:Int):List PV:= [.sc (.int .i64 n)]
def eB(b:Bool):List PV:= [.sc (.bool b)]
def eII(p:Int × Int):List PV:= [.sc (.int .i64 p.1), .sc (.int .i64 p.2)]
@[go_sem] def snocI{l n}:ir eI l++ [[.p (.sc (.int .i64 n))]]=ir eI (l++ [n]):=by simp[ir,eI]
@[go_sem] def take_snoc{α:Type}{l}{a:α}:List.take (l.length+1) (l++ [a])=l++ [a]:=List.take_of_length_le wb
abbrev lI(l:List Int):IV:= .p (.imm 1 (pr eI l))
abbrev lII(l:List (Int × Int)):IV:= .p (.imm 2 (pr eII l))
def w64{n}(h: -9223372036854775808<=n/\n<=9223372036854775807):IntKind.i64.wrap n=n:=by rw[IntKind.wrap_i64];omega
def qaU{α:Type}{l:List α}{i}(h):l.drop i=l[i]::l.drop (i+1):=List.drop_eq_getElem_cons h
def beqT{x y:Int}(h:x=y):(x==y)=Y:=wg
def beqF{x y:Int}(h: ¬x=y):(x==y)=Z:=wg
def bneT{x y:Int}(h: ¬x=y):(x != y)=Y:=wg
def bneF{x y:Int}(h:x=y):(x != y)=Z:=wg
@[go_sem] def bbT{b}:(b==Y)=b:=wb
@[go_sem] def bbF{b}:(b==Z)= !b:=wb
attribute [go_sem] lI lII
end Go.Idl
namespace Go.Idl
variable{P:Program}{h0:IH}
inductive qaL where
 | ret
 | pan (ch:List PanicEntry)
def toFM:qaL->FrameMode
 | .ret=> .returning
 | .pan c=> .panicking c
def qce:qaL->qaL
 | .pan ({recovered:=true, .. }::o)=>match o.dropWhile (!·.goexit) with
   | []=> .ret
   | r=> .pan r
 | m=>m
def qe0(u:qaL)(c:List PanicEntry):qaL:=match u with
 | .pan o=> .pan (c++o)
 | _=> .pan c
def qrt{u v}(h:toFM u=toFM v):u=v:=by cases u<;>cases v<;>simp_all[toFM]
def toFM_settle(u):toFM (qce u)=settle (toFM u):=by
 cases u with
 | ret=>rfl
 | pan c=>
   cases c with
   | nil=>rfl
   | cons p o=>
     obtain⟨v,r,g⟩:=p;cases r<;>grind[qce,toFM,settle]
def qnb(u c):toFM (qe0 u c)=raised (toFM u) c:=by cases u<;>rfl
def ICodeS(P:Program)(h0:IH)(c:Code)(S:qab)(u:qaL)(Q:Exit->qaL->qab->Prop):Prop:=
 ∀d,HRel h0.nx h0.m d-> ∀M a,qaf d M->SRel h0 S M a-> ∀(b:Frame) (g:List Frame),b.mode=toFM u->
  c.wpS P (λe i f w=> ∃h,f= {b with mode:=toFM h}::g/\qcR h0 d (λe j=>Q e h j) e i w) a (b::g) M.w
def qdB{c S u Q}(h:qbi P h0 c S λe S'=>Q e u S'):ICodeS P h0 c S u Q:=by
 intro f b M a g i d l j;refine wpS_of_wp (wp_mono (wpIn_wide.1 (h f b M a g i U (.inl rfl))) λe m w k=>⟨u,?_,k⟩);rw[<-j]
def qc1{c:Code}{Q f a cs w}(h:c.wpS P Q a cs w)(g: ∀e a cs w,Q e a cs w->f e a cs w):c.wpS P f a cs w:=
 λb k i j=>let ⟨e,l,d,m,q,r⟩:=h b k i j;⟨e,l,d,m,g _ _ _ _ q,r⟩
def qer{x y S u Q}(h:ICodeS P h0 x S u λe b S'=>match e with | .normal=>ICodeS P h0 y S' b Q | e=>Q e b S'):ICodeS P h0 (.seq x y) S u Q:=by
 intro m l M a o p d n q;refine wpS_seq (qc1 (h m l M a o p d n q) ?_);rintro e r s z ⟨b,rfl,f,S',rfl,g,j,k⟩;cases e with
 | normal=>
   refine qc1 (k m l f r g j {d with mode:=toFM b} n rfl) ?_;simp
 | exit i=>exact⟨b,rfl,f,S',rfl,g,j,k⟩
 | goto i=>exact⟨b,rfl,f,S',rfl,g,j,k⟩
 | ret=>exact⟨b,rfl,f,S',rfl,g,j,k⟩
 | panic c=>exact⟨b,rfl,f,S',rfl,g,j,k⟩
 | outgrown=>exact⟨b,rfl,f,S',rfl,g,j,k⟩
def upon_noout{o:Oper}{a next n Q d r}(h:o.upon P a next Q r)(b: ∀a w,next a w->n a w)(f: ∀e a w,Q e a w->d e a w):o.upon P a n d r:=by
 have g:LetsOut Q->LetsOut d:=λ⟨a,w,q⟩=>⟨a,w,f _ _ _ q⟩
 unfold Oper.upon at h ⊢;split at h
 .grind
 .grind
 .grind
 .refine h.mono λe w c=>?_
  grind
 .exact h.mono λv w c=>b _ _ c
 .grind
 omega
def qm2{b Q cs}(d: ∀a w,¬Q .outgrown a cs w): ∀(l a w),wpOps P b (λe a w=>Q e a cs w) l a w->wpOpsS P b Q l a cs w:=by
 intro l;induction l with
 | nil=>exact λa w h=>h
 | cons i g c=>
   intro a w h;simp[wpOps] at h;simp[wpOpsS];cases j:b[i]? with
   | none=>simp_all
   | some o=>
     rw[j] at h;simp only at h ⊢;by_cases k:Region.wanted o (yielded b a.tmps)=Y
     .rw[if_pos k] at h ⊢;rcases h with h | ⟨_,m,f,p⟩
      .unfold Oper.wp at h;generalize q:(execOp a.eval o).run P w=r at h;cases r with
       | ok n f=>
         cases n<;>first
          | exact upon_noout h (λa w h=>c a w h) (λ_ _ _ h=>h)
          | exact h.elim
       | halt x f=>exact upon_noout h (λa w h=>c a w h) (λ_ _ _ h=>h)
      simp_all
     simp_all
def qaY:qaL->Value × qaL
 | .pan ({v:=v,recovered:=false,goexit:=false}::o)=>(v, .pan ({v:=v,recovered:=true}::o))
 | u=>(.nilIface,u)
def qj5{u c cs}(h:c.mode=toFM u):
  (match recoverD (c::cs) with | some p=>p | none=>(.nilIface,c::cs))=((qaY u).1, {c with mode:=toFM (qaY u).2}::cs):=by
 have a:({c with mode:=toFM u})=c:=by rw[<-h]
 cases u with
 | ret=>simp_all[recoverD,toFM,qaY]
 | pan b=>
   cases b with
   | nil=>simp_all[recoverD,toFM,qaY]
   | cons p o=>
     obtain⟨v,r,g⟩:=p;cases r<;>cases g<;>simp_all[recoverD,toFM,qaY]
def qdO{id:Nat}{dst:Option Tmp}{ts:Array TypeId}{ty:TypeId}{c:String}{d:Array Edge}{r:List Oper}{S:qab}{u:qaL}{Q:Exit->qaL->qab->Prop}(H:qaC S dst=Y)
  (y: ∀S,¬Q .outgrown (qaY u).2 S) (z:r.all ncOp=Y)
  (h:IOps P h0 ⟨⟨dst, .call {callee:= .builtin .recover,args:=#[],argTypes:=ts},ty,c,d,U⟩::r⟩ r (S.put dst (.p (.sc (qaY u).1)) S.nx []) λe S'=>Q e (qaY u).2 S'):
  ICodeS P h0 (.region id ⟨⟨dst, .call {callee:= .builtin .recover,args:=#[],argTypes:=ts},ty,c,d,U⟩::r⟩ Z) S u Q:=by
 intro x A M a I F g cs J;refine wpS_region ?_;have m: ∀f,Region.wanted (⟨dst, .call {callee:= .builtin .recover,args:=#[],argTypes:=ts},ty,c,d,U⟩:Oper) f=Y:=λ_=>rfl
 have n:(execOp a.eval (⟨dst, .call {callee:= .builtin .recover,args:=#[],argTypes:=ts},ty,c,d,U⟩:Oper)).run P M.w= .ok .recover M.w:=by
  simp[execOp,resolve,invoke,builtin]
 rw[List.range_eq_range',show(⟨⟨dst, .call {callee:= .builtin .recover,args:=#[],argTypes:=ts},ty,c,d,U⟩::r⟩:Array Oper).size=r.length+1 from rfl,List.range'_succ];simp only[wpOpsS,Kf,Ko];rw[if_pos (m _),n];have b:=qj5 (cs:=cs) J;have B:=wpList_of_wd _ _ _ z (h x A M (a.put dst (qaY u).1) I (F.step (.refl M) H (.sc M _) F.heap) U (.inl rfl));have go:wpOpsS P ⟨⟨dst, .call {callee:= .builtin .recover,args:=#[],argTypes:=ts},ty,c,d,U⟩::r⟩ (λe C q D=> ∃i,q= {g with mode:=toFM i}::cs/\qcR h0 x (λe S'=>Q e i S') e C D) (Kd (0+1) r.length) (a.put dst (qaY u).1) ({g with mode:=toFM (qaY u).2}::cs) M.w:=by
  refine qm2 (λa w s=>?_) _ _ _ ?_
  .obtain⟨i,e,L,S',_,_,_,k⟩:=s;have:toFM (qaY u).2=toFM i:=by
    have:=(List.cons.inj e).1;exact congrArg Frame.mode this
   have E:=qrt this;subst E;exact y S' k
  .rw[wpOps_eq_wpList r (0+1) (by intro j;simp[Nat.add_comm])];have t: ∀(l:List Oper) a w,wpList P ⟨⟨dst, .call {callee:= .builtin .recover,args:=#[],argTypes:=ts},ty,c,d,U⟩::r⟩ (qcR h0 x λe S'=>Q e (qaY u).2 S') l a w->wpList P ⟨⟨dst, .call {callee:= .builtin .recover,args:=#[],argTypes:=ts},ty,c,d,U⟩::r⟩ (λe a w=> ∃i,({g with mode:=toFM (qaY u).2}:Frame)::cs= {g with mode:=toFM i}::cs/\qcR h0 x (λe S'=>Q e i S') e a w) l a w:=by
    intro l;induction l with
    | nil=>exact λa w h=>⟨_,rfl,h⟩
    | cons o l G=>
      intro a w h;simp only[wpList] at h ⊢;split at h
      .rename_i m;rw[if_pos m];rcases h with h | ⟨K,C,D,k⟩
       .exact .inl (upon_noout h (λa w h=>G a w h) (λe a w h=>⟨_,rfl,h⟩))
       .exact .inr ⟨K,C,D,_,rfl,k⟩
      .rename_i m;rw[if_neg m];exact G _ _ h
   exact t _ _ _ B
 cases k:recoverD (g::cs) with
 | none=>
   rw[k] at b;simp only[Prod.mk.injEq] at b;simp only;rw[b.1,b.2];exact go
 | some p=>
   rw[k] at b;obtain⟨v,q⟩:=p;simp only[Prod.mk.injEq] at b;obtain⟨rfl,rfl⟩:=b;exact go
end Go.Idl
namespace Go.Idl
variable{P:Program}{h0:IH}
def qkt(P:Program)(f:FuncId)(args:List IV)(h:IH)(u:qaL)(Q:IEnd->qaL->Nat->List (Nat × IBlk)->Prop):Prop:=
 ∀(M:Mem) (b:List Value),HRel h.nx h.m M->b.length=args.length->(∀(i:Nat) (x:IV) (v:Value),args[i]? =V x->b[i]? =V v->VRel M x v)->
  CallsD P f ⟨b⟩ (toFM u) M.w λe c w=> ∃a n l r d,c=toFM d/\a.w=w/\qaf M a/\HRel n (l++h.m) a/\qbU a r e/\Q r d n l
inductive FinD(P:Program)(fn:Func)(h:IH)(Q:IEnd->qaL->Nat->List (Nat × IBlk)->Prop):Exit->qaL->qab->Prop where
 | norm (u:qaL) (S:qab) (x:IV) (nx':Nat) (l':List (Nat × IBlk)) (hd:S.d= []) (hx:ires P S (S.l++h.m) fn.results.toList=V x)
   (hl:qcD h [] S x x nx' l') (hq:Q (.ret x) u nx' l'):FinD P fn h Q .normal u S
 | ret (u:qaL) (S:qab) (x:IV) (nx':Nat) (l':List (Nat × IBlk)) (hd:S.d= []) (hx:ires P S (S.l++h.m) fn.results.toList=V x)
   (hl:qcD h [] S x x nx' l') (hq:Q (.ret x) u nx' l'):FinD P fn h Q .ret u S
 | pan (u:qaL) (S:qab) (ch:List PanicEntry) (nx':Nat) (l':List (Nat × IBlk)) (hd:S.d= []) (hl:Sub h [] S {S with s:= [],nx:=nx',l:=l'})
   (hq:Q (.pan ch) u nx' l'):FinD P fn h Q (.panic ch) u S
def icallD_of{f:FuncId}{fn:Func}{c:Code}{args:List IV}{h:IH}{u:qaL}{Q:IEnd->qaL->Nat->List (Nat × IBlk)->Prop}(O:P.funcs[f]? =V fn)(R:fn.body=V c)(hn:args.length<=fn.ntmps)
  (T:ICodeS P h c (start fn.ntmps args h) u (FinD P fn h Q)):qkt P f args h u Q:=by
 intro M t w k W;refine callsD_of_wpS O R λg A X=>qc1 (T M w M {tmps:=(⟨t⟩:Array Value)++KF (fn.ntmps - (⟨t⟩:Array Value).size) undef,defers:= []} (.refl M) ⟨by simpa[start] using w,?_,λi x hi=>?_,trivial⟩ g A X) ?_
 .simp[start,k];omega
 .obtain⟨_,B⟩:=qdJ args 0 i x hi;have C:=qad B;simp only[KB] at B C;refine⟨t[i]'wa,?_,W i x _ B (Ka wa)⟩
  grind
 .rintro e y a0 w' ⟨z,rfl,D,S,rfl,J,b,m⟩;have p:S.d= []->y.defers= []:=λj=>by
   have:=b.defs;rw[j] at this;cases E:y.defers with
   | nil=>rfl
   | cons d ds=>rw[E] at this;exact this.elim
  have q: ∀x n l,S.d= []->ires P S (S.l++h.m) fn.results.toList=V x->qcD h [] S x x n l->Q (.ret x) z n l->
    y.defers= []/\ ∃K,({g with mode:=toFM z}:Frame)::A= {g with mode:=K}::A/\ ∃v,(results fn y.tmps).run P D.w= .ok v D.w/\ ∃a n l r L,K=toFM L/\a.w=D.w/\qaf M a/\HRel n (l++h.m) a/\qbU a r (.returned v)/\Q r L n l:=by
   intro x n l j s o F;obtain⟨v,v1,v2⟩:=qfJ (P:=P) b s;obtain⟨a,G,H,I,N⟩:=qcg o.sub w J b;exact⟨p j,_,rfl,v,v1,a,n,l, .ret x,z,rfl,G,H,I.heap,⟨v,rfl,N x x v v2 o.fz o.bel⟩,F⟩
  cases m with
  | norm _ _ x n l j s k m=>exact q x n l j s k m
  | ret _ _ x n l j s k m=>exact q x n l j s k m
  | pan _ _ ch n l j k m=>
    obtain⟨a,G,H,I,N⟩:=qcg k w J b;exact⟨p j,_,rfl,a,n,l, .pan ch,z,rfl,G,H,I.heap,rfl,m⟩
def qbg(P:Program)(fn:Func)(h0:IH)(Q:IEnd->Nat->List (Nat × IBlk)->Prop)(S:qab)(f:List IDef)(u:qaL):Prop:=
 ∀c,HRel h0.nx h0.m c-> ∀M a,qaf c M->SRel h0 {S with d:=f} M a->
  Leaves P fn a.tmps (λe w=> ∃b n l r,b.w=w/\qaf c b/\HRel n (l++h0.m) b/\qbU b r e/\Q r n l) a.defers (toFM u) M.w
def qle{h0}{S:qab}{M a}(h:SRel h0 {S with d:= []} M a):a.defers= []:=by
 have:=h.defs;cases b:a.defers with
 | nil=>rfl
 | cons d c=>rw[b] at this;exact this.elim
def qig{fn Q S x y ids n l'}(f:ires P {S with d:= []} (S.l++h0.m) fn.results.toList=V x)
  (h:qcD h0 ids {S with d:= []} x y n l') (g:Q (.ret y) n l'):qbg P fn h0 Q S [] .ret:=by
 intro q b M a i c;rw[qle c];obtain⟨v,j,k⟩:=qfJ (P:=P) c f;obtain⟨e,l,m,o,p⟩:=qcg h.sub b i c;exact⟨v,j,e,n,l', .ret y,l,m,o.heap,⟨v,rfl,p x y v k h.fz h.bel⟩,g⟩
def leaves_pan{fn Q S c ids n l'}
  (f:Sub h0 ids {S with d:= []} {S with d:= [],s:= [],nx:=n,l:=l'}) (g:Q (.pan c) n l'):qbg P fn h0 Q S [] (.pan c):=by
 intro o h M a i e;rw[qle e];obtain⟨b,k,j,m,p⟩:=qcg f h i e;exact⟨b,n,l', .pan c,k,j,m.heap,rfl,g⟩
def leaves_call{fn:Func}{Q:IEnd->Nat->List (Nat × IBlk)->Prop}{S:qab}{f:FuncId}{cap args:List IV}{m:List IDef}{u:qaL}(D:fnOk P f=Y)
  (h:qkt P f (args++cap) ⟨S.nx,S.l++h0.m⟩ u λr o n l'=>qbg P fn h0 Q {S with nx:=n,l:=l'++S.l} m (match r with | .ret _=>qce o | .pan y=>qe0 o y)):
  qbg P fn h0 Q S (⟨.func f,cap,args⟩::m) u:=by
 intro E p M a F k;have b:=k.defs;cases g:a.defers with
 | nil=>rw[g] at b;exact b.elim
 | cons d j=>
   rw[g] at b;obtain⟨⟨q,z,rfl,G,A,H,I⟩,c⟩:=b;refine⟨by cases u<;>simp[toFM], .func f,⟨q⟩,f,⟨z++q⟩,rfl,?_,?_⟩
   .simp only[invoke];rw[qbZ D];simp
   .have J:=h M (z++q) k.heap (by simp only[Ki,G,A]) (qbM A I H);refine J.mono ?_;rintro e K W ⟨B,n,l',r,o,rfl,rfl,s,L,t,N⟩;have w:SRel h0 { {S with nx:=n,l:=l'++S.l} with d:=m} B {a with defers:=j}:=
     ⟨by simp only[List.append_assoc];exact L,k.size,λi x O=>(by obtain⟨v,R,T⟩:=k.slot i x O;exact⟨v,R,T.step s⟩),c.step s⟩
    have C:=N E p B {a with defers:=j} (F.trans s) w;cases r with
    | ret x=>
      obtain⟨v,rfl,_⟩:=t;simp only[<-toFM_settle];exact C
    | pan y=>
      simp only[qbU] at t;subst t;simp only[<-qnb];exact C
def qh7{f:FuncId}{fn:Func}{c:Code}{args:List IV}{h:IH}{Q:IEnd->Nat->List (Nat × IBlk)->Prop}(o:P.funcs[f]? =V fn)(p:fn.body=V c)(w:args.length<=fn.ntmps)
  (q:qbi P h c (start fn.ntmps args h) λe S=>match e with
   | .normal=>qbg P fn h Q S S.d .ret
   | .ret=>qbg P fn h Q S S.d .ret
   | .panic n=>qbg P fn h Q S S.d (.pan n)
   | _=>False):qa5 P f args h Q:=by
 intro M v d r t;refine calls_of_wp_defers o p (wp_mono (wpIn_wide.1 (q M d M {tmps:=(⟨v⟩:Array Value)++KF (fn.ntmps - (⟨v⟩:Array Value).size) undef,defers:= []} (.refl M) ⟨by simpa[start] using d,?_,λi x u=>?_,trivial⟩ U (.inl rfl))) ?_)
 .simp[start,r];omega
 .obtain⟨_,g⟩:=qdJ args 0 i x u;have j:=qad g;simp only[KB] at g j;refine⟨v[i]'wa,?_,t i x _ g (Ka wa)⟩
  grind
 .rintro e k y ⟨m,z,rfl,s,a,b⟩;cases e with
  | normal=>exact b M d m k s a
  | ret=>exact b M d m k s a
  | panic n=>exact b M d m k s a
  | exit id=>exact b.elim
  | goto l=>simp_all
  | outgrown=>simp_all
def qgk(ρ:Operand->Option IV)(f:Operand)(args:List Operand):Option IDef:=
 match ρ f,rlist ρ args with
 | some (.p (.sc (.func (.func a) ⟨[]⟩ ⟨[]⟩))),V z=>V ⟨.func a, [],z⟩
 | some (.clo (.func a) first c),V z=>V ⟨.func a,c,first++z⟩
 | _,_=>U
def iops_defer{c:Array Oper}{o:Oper}{r:List Oper}{S:qab}{Q:Exit->qab->Prop}{f:Operand}{args:List Operand}{ts:Array TypeId}{x:IDef}
  (B:o.op= .defer {callee:= .value f,args:=⟨args⟩,argTypes:=ts}) (G:qam c S.s o=V Y) (i:qgk (ev S.s) f args=V x) (H:qaC S o.dst=Y)
  (h:IOps P h0 c r {S.put o.dst (.tup []) S.nx [] with d:=x::S.d} Q):IOps P h0 c (o::r) S Q:=by
 intro I m M a J b L j;refine wpListW_step (j.mem (Kc ..)) λK N=>?_;rw[if_pos (qbd b G)];have n: ∃d:Deferred,(execOp a.eval o).run P M.w= .ok (.defer d) M.w/\DRel M x d:=by
  unfold qgk at i;split at i
  .rename_i l O p s;cases i;have e:=(qaF b.slot p).sc_inv;obtain⟨t,u⟩:=qbt (M:=M) (a:=a) s λy _ z v=>qaF b.slot v;refine⟨{target:= .fn (.func l) #[],args:=⟨args.map a.eval⟩},?_,⟨[],args.map a.eval,rfl,rfl,t,wb,u⟩⟩;simp[execOp,B,resolve,e,Deferred.ofValue]
  .rename_i l first w O p s;cases i;have C:=qaF b.slot p;obtain⟨t,u⟩:=qbt (M:=M) (a:=a) s λy _ z v=>qaF b.slot v;generalize R:a.eval f=q at C;cases C with
   | clo l first w D E F T X rc=>
     refine⟨{target:= .fn (.func l) ⟨E⟩,args:=⟨D++args.map a.eval⟩},?_,⟨E,D++args.map a.eval,rfl,T,by simp[F,t],rc,qbM F X u⟩⟩;simp[execOp,B,resolve,R,Deferred.ofValue]
  .cases i
 obtain⟨d,k,A⟩:=n;unfold Oper.wp;rw[k];refine N _ _ (h I m M _ J ?_ L j.tl);have g:=b.step (W:= []) (nx:=S.nx) (.refl M) H (qiE M) b.heap;have e2:(({a with defers:=d::a.defers}:Act).put o.dst undef)= {a.put o.dst undef with defers:=d::(a.put o.dst undef).defers}:=vp
 have e3:(a.put o.dst undef).defers=a.defers:=vp
 rw[e2];refine⟨g.heap,g.size,g.slot,?_⟩;rw[e3];exact⟨A,b.defs⟩
end Go.Idl
namespace Go.Idl
variable{P:Program}
def PRel.own'{w a o}(b: ∀c,o c->a c){x v}(h:PRel w a x v):PRel w o x v:=
 h.step (Kw _) λc _ d=>⟨rfl,λh=>d (b c h)⟩
mutual
def qbh(K:Nat->Prop):IV->Prop
 | .p _=>True
 | .ref b _ _ _=>K b
 | .ptr b _ _ _=>K b
 | .mp b=>K b
 | .clo _ f c=>qaK K f/\qaK K c
 | .agg cs=>qaK K cs
 | .tup cs=>qaK K cs
 | .dead=>True
def qaK(K:Nat->Prop):List IV->Prop
 | []=>True
 | x::r=>qbh K x/\qaK K r
end
def qaR{K}: ∀ {l} {i:Nat} {x},qaK K l->l[i]? =V x->qbh K x
 | [],i,x,_,h=>by grind
 | y::l,0,x,a,h=>by cases h;exact a.1
 | y::l,i+1,x,a,h=>qaR a.2 wE
def qby(K:Nat->Prop):IBlk->Prop
 | .arr _ _ r=> ∀a∈r,qaK K a
 | .mp b=> ∀e∈b,qbh K e.2
 | .ob _ v=>qaK K v
def qeI{K d}(h: ∀b,K b->d b)(x):qbh K x->qbh d x:=by
 apply IV.rec (motive_1:=λx=>qbh K x->qbh d x) (motive_2:=λl=>qaK K l->qaK d l)
 .intro x _;trivial
 .intro b g o m a;exact h b a
 .intro b g r j a;exact h b a
 .intro b a;exact h b a
 .intro p f c i e a;exact⟨i a.1,e a.2⟩
 .intro n k a;exact k a
 .intro n k a;exact k a
 .intro _;trivial
 .intro _;trivial
 .intro x l i e a;exact⟨i a.1,e a.2⟩
def qcB{K a}(h: ∀b,K b->a b): ∀ {l},qaK K l->qaK a l
 | [],_=>trivial
 | x::r,c=>⟨qeI h x c.1,qcB h c.2⟩
structure qhN(K:Nat->Prop)(M M':Mem):Prop where
 w:M'.w=M.w
 A: ∀b,K b->M.H.A b->M'.H.A b
 G: ∀b,K b->M'.H.G b=M.H.G b
 β: ∀b,K b->M'.β b=M.β b
 own: ∀c,M'.own c->M.own c
def VRel.alike{K M M'}(a:qhN K M M'){x v}(h:VRel M x v):qbh K x->VRel M' x v:=by
 induction h with
 | p x v h=>exact λ_=> .p x v (by rw[a.w];exact h.own' a.own)
 | ref b g o m v l d h=>
   intro c;exact .ref b g o m v (a.A b c l) d λe k=>by rw[a.β b c];rw[a.G b c] at k;grind
 | ptr b g r j v l d h=>
   intro c;exact .ptr b g r j v (a.A b c l) d λe k=>by rw[a.β b c];rw[a.G b c] at k;grind
 | mp b v l d h=>
   intro c;exact .mp b v (a.A b c l) d λe k=>by rw[a.β b c];rw[a.G b c] at k;grind
 | clo w first n y vc z A E F B C=>exact λc=> .clo w first n y vc z A (λi x v f d=>B i x v f d (qaR c.1 f)) (λi x v f d=>C i x v f d (qaR c.2 f))
 | agg q s t D r u=>exact λc=> .agg q s t D λi x v f d=>u i x v f d (qaR c f)
 | tup q s t r u=>exact λc=> .tup q s t λi x v f d=>u i x v f d (qaR c f)
 | dead v=>exact λ_=> .dead v
def BRel.alike{K M M'}(a:qhN K M M'){b}(u:K b){d}(h:BRel M b d)(l:qby K d):BRel M' b d:=by
 cases d with
 | arr R g z=>
   refine⟨h.1,λB=>h.2.1 (by rw[<-a.β b u];omega),λc o n p=>?_⟩;rw[a.β b u] at p;obtain⟨C,D,q,r,s,w,E⟩:=h.2.2 c o n p;refine⟨C,D,by rw[a.w];omega,r,s,w,λi t j x f A=>?_⟩;obtain⟨v,F,G,H⟩:=E i t j x f A;exact⟨v,F,G,H.alike a (qaR (l t (Kb f)) A)⟩
 | mp S=>
   obtain⟨c,o,n,p,y,m,q,r,s⟩:=h;refine⟨c,o,n,by rw[a.β b u];omega,y,m,by rw[a.w];omega,r,λi k x f=>?_⟩;obtain⟨e,I,L,N⟩:=s i k x f;exact⟨e,I,L,N.alike a (l (k,x) (Kb f))⟩
 | ob k T=>
   obtain⟨c,o,n,p,ob,O,q,r,s,w⟩:=h;exact⟨c,o,n,by rw[a.β b u];omega,ob,O,by rw[a.w];omega,r,s,λi x v f Q=>(w i x v f Q).alike a (qaR l f)⟩
def BRel.step{M M'}(s:qaf M M'){b d}(h:M'.β b=M.β b)(m: ∀c o n,M.β b=V (c,o,n)->M'.w.heap[c]? =M.w.heap[c]?)(p:BRel M b d):BRel M' b d:=by
 cases d with
 | arr T y w=>
   obtain⟨z,A,B⟩:=p;refine⟨z,λC=>A wn,λc o n a=>?_⟩;rw[h] at a;obtain⟨D,E,q,f,g,r,F⟩:=B c o n a;refine⟨D,E,(m c o n a).trans q,f,g,r,λi t j x l G=>?_⟩;obtain⟨v,H,I,K⟩:=F i t j x l G;exact⟨v,H,I,K.step s⟩
 | mp W=>
   obtain⟨c,o,n,a,u,e,q,f,g⟩:=p;refine⟨c,o,n,wn,u,e,(m c o n a).trans q,f,λi k x l=>?_⟩;obtain⟨L,N,O,Q⟩:=g i k x l;exact⟨L,N,O,Q.step s⟩
 | ob k X=>
   obtain⟨c,o,n,a,ob,R,q,f,g,r⟩:=p;exact⟨c,o,n,wn,ob,R,(m c o n a).trans q,f,g,λi x v l S=>(r i x v l S).step s⟩
def qaM(R:List (Nat × IBlk))(b:Nat):Prop:= ∃a,look R b=V a
def Mem.part(M:Mem)(R:List (Nat × IBlk)):Mem:=
 ⟨M.w,⟨qaM R,look R,λc=>M.H.O c\/ ∃b a o n,look R b=U/\M.H.G b=V a/\M.β b=V (c,o,n)⟩,M.β⟩
def qlR{M:Mem}{R}(f: ∀b a,look R b=V a->M.H.G b=V a)(c):(M.part R).own c->M.own c:=by
 rintro((h | ⟨b,a,o,n,_,d,e⟩) | ⟨b,a,o,n,d,e⟩)
 .exact .inl h
 .exact .inr ⟨b,a,o,n,d,e⟩
 .exact .inr ⟨b,a,o,n,f b a d,e⟩
def qir{M R}(c: ∀b a,look R b=V a->M.H.G b=V a):qhN (qaM R) M (M.part R):=
 ⟨rfl,λb h _=>h,λb ⟨a,h⟩=>by rw[c b a h];exact h,λb _=>rfl,qlR c⟩
def qrj{M R i}(e:MRel M)(f: ∀b a,look R b=V a->M.H.G b=V a)
  (j: ∀b,qaM R b->b < i) (m: ∀b a,look R b=V a->qby (qaM R) a):HRel i R (M.part R):=by
 refine⟨⟨λb a h=>⟨a,h⟩,λb a h=>?_,λb k a d c o n p q h l=>?_,λc g=>?_,λb a c o n h g=>?_⟩,j,λb=>rfl⟩
 .exact BRel.alike (qir f) ⟨a,h⟩ (e.blk b a (f b a h)) (m b a h)
 .exact e.inj b k a d c o n p q (f b a h) (f k d l)
 .rcases g with g | ⟨b,a,o,n,_,r,s⟩
  .exact e.olt c g
  .exact e.lt (.inr ⟨b,a,o,n,r,s⟩)
 .rintro(t | ⟨k,d,p,q,u,r,s⟩)
  .exact e.odis b a c o n (f b a h) g t
  .have:=e.inj b k a d c o n p q (f b a h) r g s;have l:look R b=V a:=h
   grind
def qii{l p}(h:p∈l):qaM l p.1:=by
 cases a:look l p.1 with
 | some x=>exact⟨x,a⟩
 | none=>exact absurd rfl (look_none a p h)
def qpG{o:Oper}{ρ:Operand->Option IV}{f:Operand}{args:List Operand}{ts:Array TypeId}{n:FuncId}{zs:List IV}{R l:List (Nat × IBlk)}{x:IV}{L k:Nat}
  (ho:o.op= .call {callee:= .value f,args:=⟨args⟩,argTypes:=ts}) (E:qao ρ f args=V (n,zs)) (hn:fnOk P n=Y)
  (a4: ∀b,qaM R b->b < L) (a5: ∀b d,look R b=V d->qby (qaM R) d) (b1:qaK (qaM R) zs)
  (a6: ∀p∈l,qaM R p.1\/p.1∈Kd L k) (hx:qbh (qaM (l++R)) x) (hl: ∀b d,look l b=V d->qby (qaM (l++R)) d)
  (hp:qa5 P n zs ⟨L,R⟩ λr a7 l'=>r= .ret x/\a7=L+k/\l'=l):Loc P o ρ R (Kd L k) x l.reverse:=by
 intro nx m M a hM hR hF hr K Q hK;have hG: ∀b d,look R b=V d->M.H.G b=V d:=λb d h=>by rw[hM.G];exact hR _ (look_mem h)
 obtain⟨vs,a8,a9,hv⟩:=qez hr ho E hn;unfold Oper.wp;rw[a8];have b2: ∀(i:Nat) (y:IV) (v:Value),zs[i]? =V y->vs[i]? =V v->VRel (M.part R) y v:=λi y v hy hw=>
  (hv i y v hy hw).alike (qir hG) (qaR b1 hy)
 refine Calls.mono (hp (M.part R) vs (qrj hM.rel hG a4 a5) a9 b2) λe w' ⟨M1,a7,l',re,e1,T,hh,he,h1,h2,h3⟩=>?_;subst h1 h2 h3;obtain⟨v,rfl,hv⟩:=he;subst e1;have b3: ∀b,qaM R b->M.H.A b:=λb ⟨d,j⟩=>hM.rel.dom b d (hG b d j)
 have a3: ∀b,qaM (l'++R) b->qaM R b\/ ¬M.H.A b:=by
  rintro b ⟨d,j⟩;rw[qae] at j;cases u:look l' b with
  | some y=>
    rcases a6 _ (look_mem u) with h | h
    .exact .inl h
    .exact .inr (hF b h)
  | none=>rw[u] at j;exact .inl ⟨d,j⟩
 classical
 let N:Mem:=⟨M1.w,M.H.upd l'.reverse,λb=>if qaM (l'++R) b then M1.β b else M.β b⟩;have z: ∀b,qaM (l'++R) b->N.H.G b=M1.H.G b:=by
  rintro b ⟨d,j⟩;show(M.H.upd l'.reverse).G b=M1.H.G b;rw[qhd,Ks,hh.G,j];rw[qae] at j;cases u:look l' b with
  | some y=>rw[u] at j;exact j
  | none=>rw[u] at j;exact hG b d j
 have q: ∀b,¬qaM (l'++R) b->N.H.G b=M.H.G b/\look R b=U:=by
  intro b j;have:look (l'++R) b=U:=by
   cases h:look (l'++R) b with
   | none=>rfl
   | some y=>exact absurd ⟨y,h⟩ j
  rw[qae] at this;cases u:look l' b with
  | some y=>rw[u] at this;cases this
  | none=>
    rw[u] at this;refine⟨?_,this⟩;show(M.H.upd l'.reverse).G b=M.H.G b;rw[qhd,Ks,u]
 have w: ∀b,qaM (l'++R) b->N.β b=M1.β b:=λb j=>if_pos j
 have t: ∀b,¬qaM (l'++R) b->N.β b=M.β b:=λb j=>if_neg j
 have X:N.H.O=M.H.O:=by
  show(M.H.upd l'.reverse).O=M.H.O;generalize l'.reverse=W;generalize M.H=H;induction W generalizing H with
  | nil=>rfl
  | cons p W ih=>exact ih (H.put p.1 p.2)
 have S: ∀c,(M.part R).H.O c->M1.H.O c:=λc h=>by rw[T.oeq];exact h
 have a1: ∀c,N.own c->M1.own c:=by
  rintro c (h | ⟨b,d,o,n,h1,h2⟩)
  .rw[X] at h;exact .inl (S c (.inl h))
  .by_cases j:qaM (l'++R) b
   .exact .inr ⟨b,d,o,n,by rw[<-z b j];exact h1,by rw[<-w b j];exact h2⟩
   .obtain⟨g1,g2⟩:=q b j;exact .inl (S c (.inr ⟨b,d,o,n,g2,by rw[<-g1];exact h1,by rw[<-t b j];exact h2⟩))
 have a0: ∀b,N.H.A b↔M.H.A b\/ ∃d,(b,d)∈l':=by
  intro b;show(M.H.upd l'.reverse).A b↔_;rw[qiI];simp
 have s:qaf M N:=by
  refine⟨T.os,T.tape,T.output,T.size,λc E b4=>?_,λb j=>(a0 b).2 (.inl j),λb D hA j=>?_,X,λc E=>T.ofix c (.inl E)⟩
  .obtain⟨k1,k2⟩:=T.keep c E λh=>b4 (qlR hG c h);exact⟨k1,λh=>k2 (a1 c h)⟩
  .by_cases B:qaM (l'++R) b
   .rcases a3 b B with ⟨d,C⟩ | C
    .rw[z b B] at j;obtain⟨a2,g0,g1,g2,g3,g4⟩:=T.comp b D ⟨d,C⟩ j;exact⟨a2,hG b a2 g0,g1,g2,g3,λe=>⟨(w b B).trans (g4 e).1,(g4 e).2⟩⟩
    .exact absurd hA C
   .rw[(q b B).1] at j;exact⟨D,j,rfl,rfl,Kw _,λ_=>⟨t b B,rfl⟩⟩
 have al:qhN (qaM (l'++R)) M1 N:=by
  refine⟨rfl,λb j _=>?_,z,w,a1⟩;obtain⟨d,j⟩:=j;rw[qae] at j;cases u:look l' b with
  | some y=>exact(a0 b).2 (.inr ⟨y,look_mem u⟩)
  | none=>rw[u] at j;exact(a0 b).2 (.inl (b3 b ⟨d,j⟩))
 have F: ∀b,qaM R b->qaM (l'++R) b:=by
  rintro b ⟨d,j⟩;unfold qaM;rw[qae];cases u:look l' b with
  | some y=>exact⟨y,rfl⟩
  | none=>exact⟨d,j⟩
 have b5:MRel N:=by
  refine⟨λb d j=>?_,λb d j=>?_,λb I d D c o n o' n' h h' c1 c2=>?_,λc E=>?_,λb d c o n h E=>?_⟩
  .by_cases B:qaM (l'++R) b
   .rw[z b B] at j;exact al.A b B (hh.rel.dom b d j)
   .rw[(q b B).1] at j;exact(a0 b).2 (.inl (hM.rel.dom b d j))
  .by_cases B:qaM (l'++R) b
   .rw[z b B] at j;refine BRel.alike al B (hh.rel.blk b d j) ?_;rw[hh.G,qae] at j;cases u:look l' b with
    | some y=>rw[u] at j;cases j;exact hl b _ u
    | none=>
      rw[u] at j;have:=a5 b d j;cases d with
      | arr sz g b7=>exact λb6 b0=>qcB F (this b6 b0)
      | mp es=>exact λe he=>qeI F _ (this e he)
      | ob k vs=>exact qcB F this
   .rw[(q b B).1] at j;refine BRel.step s (t b B) (λc o n E=>?_) (hM.rel.blk b d j);exact T.ofix c (.inr ⟨b,d,o,n,(q b B).2,j,E⟩)
  .by_cases B:qaM (l'++R) b<;>by_cases C:qaM (l'++R) I
   .rw[z b B] at h;rw[z I C] at h';rw[w b B] at c1;rw[w I C] at c2;exact hh.rel.inj b I d D c o n o' n' h h' c1 c2
   .rw[z b B] at h;rw[(q I C).1] at h';rw[w b B] at c1;rw[t I C] at c2;exact absurd (S c (.inr ⟨I,D,o',n',(q I C).2,h',c2⟩)) (hh.rel.odis b d c o n h c1)
   .rw[(q b B).1] at h;rw[z I C] at h';rw[t b B] at c1;rw[w I C] at c2;exact absurd (S c (.inr ⟨b,d,o,n,(q b B).2,h,c1⟩)) (hh.rel.odis I D c o' n' h' c2)
   .rw[(q b B).1] at h;rw[(q I C).1] at h';rw[t b B] at c1;rw[t I C] at c2;exact hM.rel.inj b I d D c o n o' n' h h' c1 c2
  .rw[X] at E;exact Kx (hM.rel.olt c E) T.size
  .rw[X];by_cases B:qaM (l'++R) b
   .rw[z b B] at h;rw[w b B] at E;exact λho=>hh.rel.odis b d c o n h E (S c (.inl ho))
   .rw[(q b B).1] at h;rw[t b B] at E;exact hM.rel.odis b d c o n h E
 exact hK v N s b5 rfl (hv.alike al hx)
def qbs(k:List Nat):IV->Bool
 | .p _=>Y
 | .ref b _ _ _=>k.contains b
 | .ptr b _ _ _=>k.contains b
 | .mp b=>k.contains b
 | .clo _ f c=>goW f && goW c
 | .agg a=>goW a
 | .tup a=>goW a
 | .dead=>Y
where goW:List IV->Bool
 | []=>Y
 | x::r=>qbs k x && goW r
def qdP{k K}(h: ∀b∈k,K b)(x):qbs k x=Y->qbh K x:=by
 apply IV.rec (motive_1:=λx=>qbs k x=Y->qbh K x) (motive_2:=λl=>qbs.goW k l=Y->qaK K l)
 .intro x _;trivial
 .intro b g o m a;exact h b (by simpa[qbs] using a)
 .intro b g r j a;exact h b (by simpa[qbs] using a)
 .intro b a;exact h b (by simpa[qbs] using a)
 .intro p f c i d a;simp[qbs] at a;exact⟨i a.1,d a.2⟩
 .intro n e a;exact e a
 .intro n e a;exact e a
 .intro _;trivial
 .intro _;trivial
 .intro x l i d a;simp[qbs.goW] at a;exact⟨i a.1,d a.2⟩
def qeu{k K}(h: ∀b∈k,K b): ∀l:List IV,qbs.goW k l=Y->qaK K l
 | [],_=>trivial
 | x::r,a=>by simp[qbs.goW] at a;exact⟨qdP h x a.1,qeu h r a.2⟩
def qla(k:List Nat):IBlk->Bool
 | .arr _ _ r=>r.all (qbs.goW k)
 | .mp a=>a.all λe=>qbs k e.2
 | .ob _ v=>qbs.goW k v
def qf2{f K}(h: ∀b∈f,K b){a}(d:qla f a=Y):qby K a:=by
 cases a with
 | arr s g i=>exact λr c=>qeu h r (List.all_eq_true.1 d r c)
 | mp l=>exact λe j=>qdP h e.2 (List.all_eq_true.1 d e j)
 | ob k v=>exact qeu h v d
def qof(n k:Nat)(R l:List (Nat × IBlk))(zs:List IV)(x:IV):Bool:=
 R.all (λp=>Nat.blt p.1 n && qla (R.map (·.1)) p.2) && qbs.goW (R.map (·.1)) zs &&
 l.all (λp=>((R.map (·.1)).contains p.1 || (Nat.ble n p.1 && Nat.blt p.1 (n+k))) && qla (l.map (·.1)++R.map (·.1)) p.2) &&
 qbs (l.map (·.1)++R.map (·.1)) x
def qrO{o:Oper}{ρ:Operand->Option IV}{f:Operand}{args:List Operand}{ts:Array TypeId}{n:FuncId}{zs:List IV}{R l:List (Nat × IBlk)}{x:IV}{a k:Nat}
  (u:o.op= .call {callee:= .value f,args:=⟨args⟩,argTypes:=ts}) (v:qao ρ f args=V (n,zs)) (w:fnOk P n=Y)
  (j:qof a k R l zs x=Y)
  (hp:qa5 P n zs ⟨a,R⟩ λr g l'=>r= .ret x/\g=a+k/\l'=l):Loc P o ρ R (Kd a k) x l.reverse/\ ∀p∈l,p.1∈Kd a k\/ ∃d,(p.1,d)∈R:=by
 simp only[qof,KI,List.all_eq_true,Bool.or_eq_true] at j;obtain⟨⟨⟨m,y⟩,q⟩,z⟩:=j;have i: ∀b∈R.map (·.1),qaM R b:=λb c=>by
  obtain⟨p,hp,rfl⟩:=List.mem_map.1 c;exact qii hp
 have s: ∀b∈l.map (·.1)++R.map (·.1),qaM (l++R) b:=λb c=>by
  rw[<-List.map_append] at c;obtain⟨p,hp,rfl⟩:=List.mem_map.1 c;exact qii hp
 have e: ∀p∈l,qaM R p.1\/p.1∈Kd a k:=λp hp=>by
  rcases (q p hp).1 with h | ⟨t,c⟩
  .grind
  simp_all
 refine⟨qpG u v w (λb ⟨d,c⟩=>?_) (λb d c=>qf2 i (m _ (look_mem c)).2) (qeu i _ y) e (qdP s x z) (λb d c=>qf2 s (q _ (look_mem c)).2) hp,λp hp=>?_⟩
 .have:=(m _ (look_mem c)).1;simp_all
 .rcases e p hp with ⟨d,c⟩ | h
  .exact .inr ⟨d,look_mem c⟩
  .exact .inl h
def qeL:IBlk->List Nat
 | .arr _ _ r=>r.flatMap qaN
 | .mp a=>a.flatMap λe=>refs e.2
 | .ob _ v=>qaN v
def qdo(G:Nat->Option IBlk):Nat->List Nat->List Nat->List Nat
 | 0,_,a=>a
 | _, [],a=>a
 | n+1,b::r,a=>match a.contains b with
   | true=>qdo G n r a
   | false=>match G b with
     | some c=>qdo G n (qeL c++r) (b::a)
     | none=>qdo G n r a
end Go.Idl
