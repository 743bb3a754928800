/- Facts that the proofs of this claim lean on. -/
import Derived.Test.YtfhhdgkhajkapaaGreatIdNa
import Derived.Test.YtfhhdgkhajkapaaGreatIdAz
import Derived.OrdersIn
import Derived.TacticsIn
import Derived.LoopNIn
import Derived.Sort.LoopGhostIn
import Derived.RangeFuncCalls
import Derived.Deep.LoopGhost
set_option linter.unusedSimpArgs false
set_option linter.unusedVariables false
/-
 One function for the operations that are no calls of Go functions.
-/
namespace Go.Idl
variable {P:Program} {o:Oper} {ρ:Operand→Option IV} {G:Nat→Option IBlk}
def qka (all:Array Oper):Option Tmp→Bool
 | some d=>go d all.toList
 | none=>true
where
 go (d:Tmp):List Oper→Bool
  | []=>false
  | o::r=>match o.op with
    | .call {callee:= .builtin .append,args:=⟨[_, .tmp t]⟩,argTypes:=_}=>match Nat.beq t d with
      | true=>true
      | false=>go d r
    | _=>go d r
def fop (P:Program) (ρ:Operand→Option IV) (G:Nat→Option IBlk) (nx:Nat) (all:Array Oper) (dst:Option Tmp):Op→Option FR
 | .move y | .assign y=>(ρ y).map fun z=> {x:=z}
 | .pick c x y=>match ρ c,ρ x,ρ y with
   | some (.p (.sc (.bool t))),some u,some v=>some {x:=if t then u else v}
   | _,_,_=>none
 | .load t y=>(ρ y).bind (qgc P G t)
 | .fieldAddr s y f=>(ρ y).bind (qew P s f)
 | .indexAddr t x i=>match ρ x,ρ i with
   | some zx,some zi=>fiaddr P G t zx zi
   | _,_=>none
 | .index t x i=>match ρ x,ρ i with
   | some zx,some zi=>findex P t zx zi
   | _,_=>none
 | .field t x f=>(ρ x).bind (ffield P t f)
 | .slice t x lo hi mx=>match ρ x,ropt ρ lo,ropt ρ hi,ropt ρ mx with
   | some zx,some zlo,some zhi,some zmx=>qez P G t zx zlo zhi zmx
   | _,_,_,_=>none
 | .binOp op t x y _=>match ρ x,ρ y with
   | some zx,some zy=>orE (fbin P op t zx zy) (orE (qdW op zx zy) (orE (feqv P op t zx zy) (fslnil P G op t zx zy)))
   | _,_=>none
 | .unOp op _ x=>(ρ x).bind (fun1 op)
 | .convert s d x=>(ρ x).bind fun zx=>orE (fconv P s d zx) (fb2s P G s d zx)
 | .extract x i=>(ρ x).bind (fextract i)
 | .makeFunc fn first cap=>match qbr ρ first.toList,qbr ρ cap.toList with
   | some zf,some zc=>some {x:= .clo fn zf zc}
   | _,_=>none
 | .makeInterface t x=>(ρ x).bind (fiface P t)
 | .nilCheck x=>(ρ x).bind fnil
 | .build t parts=>(rparts ρ parts.toList).bind (qev P t)
 | .buildSlice t len parts=>(rparts ρ parts.toList).bind (qcN P nx (qka all dst) t len)
 | .box _ x=>(ρ x).bind (fbox nx)
 | .alloc t=>qet P nx t
 | .makeSlice t l c=>match ρ l,ρ c with
   | some zl,some zc=>fmake P nx t zl zc
   | _,_=>none
 | .store t p x=>match ρ p,ρ x with
   | some zp,some zx=>fstore P G t zp zx
   | _,_=>none
 | .makeMap _ r=>match r with
   | none=>fmkmap nx none
   | some _=>none
 | .lookup t x i ok=>match ρ x,ρ i with
   | some zx,some zi=>qex P G t zx zi ok
   | _,_=>none
 | .mapUpdate t m k x | .insert t m k x=>match ρ m,ρ k,ρ x with
   | some zm,some zk,some zx=>qdH P G t zm zk zx
   | _,_,_=>none
 | .mapEntry t m k=>match ρ m,ρ k with
   | some zm,some zk=>qey P G t zm zk
   | _,_=>none
 | .entryStore _ m s x=>match ρ m,ρ s,ρ x with
   | some zm,some zs,some zx=>qfC G zm zs zx
   | _,_,_=>none
 | .typeAssert x _ t ok=>(ρ x).bind (qeu P t ok)
 | .call {callee:= .builtin b,args,argTypes}=>match b with
   | .cap=>match args.toList,argTypes.toList with
     | [x], [t]=>(ρ x).bind fun zx=>if(tel P t).isSome then fcap zx else none
     | _,_=>none
   | .len=>match args.toList,argTypes.toList with
     | [x], [t]=>(ρ x).bind fun zx=>if qdV P t zx then flen G zx else none
     | _,_=>none
   | .append=>match args.toList,argTypes.toList with
     | [s,x], [t1,t2]=>match ρ s,ρ x with
       | some zs,some zx=>orE (fapp P G nx t1 t2 zs zx) (qhL P nx t1 t2 zs zx)
       | _,_=>none
     | _,_=>none
   | .copy=>match args.toList,argTypes.toList with
     | [s,x],t1::_=>match ρ s,ρ x with
       | some zs,some zx=>qgb P G t1 zs zx
       | _,_=>none
     | _,_=>none
   | .clear=>match args.toList,argTypes.toList with
     | [x], [t]=>(ρ x).bind (qfB P G t)
     | _,_=>none
   | .max=>(qbr ρ args.toList).bind (fmax true)
   | .min=>(qbr ρ args.toList).bind (fmax false)
   | _=>none
 | .call {callee:= .value f,args,argTypes:=_}=>qfA P ρ f args.toList
 | _=>none
structure FR.fits (fr:FR) (G:Nat→Option IBlk) (nx:Nat):Prop where
 reads: ∀p∈fr.R,G p.1=some p.2
 new:(fr.F= []∧ ∀p∈fr.W,∃blk,(p.1,blk)∈fr.R)∨(fr.F= [nx]∧ ∃blk,fr.W= [(nx,blk)])
theorem fits_read {x:IV} {nx:Nat}:FR.fits {x} G nx:=⟨by simp, .inl ⟨rfl,by simp⟩⟩
theorem irows_reads {sz:Nat} {z:IV} {rs:List (List IV)} {R:List (Nat × IBlk)} (h:qco G sz z=some (rs,R)): ∀p∈R,G p.1=some p.2:=by
 unfold qco at h
 split at h
 ·split at h
  ·simp only [Option.some.injEq,Prod.mk.injEq] at h;rw [←h.2];simp
  ·cases h
 ·simp only [Option.some.injEq,Prod.mk.injEq] at h;rw [←h.2];simp
 ·simp only [Option.some.injEq,Prod.mk.injEq] at h;rw [←h.2];simp
 ·split at h
  ·rename_i hb
   split at h
   ·simp only [Option.some.injEq,Prod.mk.injEq] at h;rw [←h.2];simpa using hb
   ·cases h
  ·cases h
 ·cases h
theorem iapp_reads {sz:Nat} {z:IV} {rs:List (List IV)} {R:List (Nat × IBlk)} (h:iapp G sz z=some (rs,R)): ∀p∈R,G p.1=some p.2:=by
 unfold iapp at h
 split at h
 ·split at h
  ·simp only [Option.some.injEq,Prod.mk.injEq] at h;rw [←h.2];simp
  ·cases h
 ·exact irows_reads h
theorem mlook_G {t:TypeId} {x ix:IV} {b:Nat} {es:List (Value × IV)} {kv:Value} {r:Option (Nat × IV)} {e:TypeId} (h:mlook P G t x ix=some (b,es,kv,r,e)):G b=some (.mp es):=by
 unfold mlook at h
 split at h
 ·split at h
  ·rename_i hg _ _
   split at h
   ·simp only [Option.map_eq_some_iff,Prod.mk.injEq] at h
    obtain⟨_,_,rfl,rfl,_⟩:=h
    exact hg
   ·cases h
  ·cases h
 ·cases h
theorem fmapupd_fits {t:TypeId} {m k x:IV} {nx:Nat} {fr:FR} (h:qdH P G t m k x=some fr):fr.fits G nx:=by
 unfold qdH at h
 split at h
 ·rename_i hl
  simp only [Option.some.injEq] at h;subst h
  exact⟨by simpa using mlook_G hl, .inl ⟨rfl,by simp⟩⟩
 ·rename_i hl
  simp only [Option.some.injEq] at h;subst h
  exact⟨by simpa using mlook_G hl, .inl ⟨rfl,by simp⟩⟩
 ·cases h
theorem fop_sound {nx:Nat} {all:Array Oper} {dd:Option Tmp} {fr:FR} (h:fop P ρ G nx all dd o.op=some fr):fr.ok P o ρ∧fr.fits G nx:=by
 obtain⟨dst,op,ty,pos,after,guard⟩:=o
 cases op
 case move y=>
  simp only [fop,Option.map_eq_some_iff] at h
  obtain⟨z,hz,rfl⟩:=h
  exact⟨qps (.inl rfl) hz,fits_read⟩
 case assign y=>
  simp only [fop,Option.map_eq_some_iff] at h
  obtain⟨z,hz,rfl⟩:=h
  exact⟨qps (.inr rfl) hz,fits_read⟩
 case pick c x y=>
  simp only [fop] at h
  split at h
  ·rename_i t u v hc hx hy
   simp only [Option.some.injEq] at h;subst h
   exact⟨f_pick rfl hc hx hy,fits_read⟩
  ·cases h
 case load t y=>
  simp only [fop,Option.bind_eq_some_iff] at h
  obtain⟨z,hz,h⟩:=h
  refine⟨f_load rfl hz h,?_⟩
  unfold qgc at h
  split at h
  ·split at h
   ·rename_i hb
    split at h
    ·split at h
     ·simp only [Option.map_eq_some_iff] at h
      obtain⟨x,_,rfl⟩:=h
      exact⟨by simpa using hb, .inl ⟨rfl,by simp⟩⟩
     ·cases h
    ·cases h
   ·cases h
  ·simp only [Option.map_eq_some_iff] at h
   obtain⟨x,_,rfl⟩:=h
   exact fits_read
  ·cases h
 case fieldAddr s y f=>
  simp only [fop,Option.bind_eq_some_iff] at h
  obtain⟨z,hz,h⟩:=h
  refine⟨qrx rfl hz h,?_⟩
  unfold qew at h
  split at h
  all_goals first
   | (cases h;done)
   | (split at h
      ·split at h
       ·simp only [Option.some.injEq] at h;subst h;exact fits_read
       ·cases h
      ·cases h)
 case indexAddr t x i=>
  simp only [fop] at h
  split at h
  ·rename_i zx zi hx hi
   refine⟨qrz rfl hx hi h,?_⟩
   unfold fiaddr at h
   split at h
   ·split at h
    ·split at h
     ·split at h
      ·split at h
       ·simp only [Option.some.injEq] at h;subst h;exact fits_read
       ·cases h
      ·cases h
     ·cases h
    ·cases h
   ·split at h
    ·split at h
     ·rename_i hb
      split at h
      ·simp only [Option.some.injEq] at h;subst h;exact⟨by simpa using hb, .inl ⟨rfl,by simp⟩⟩
      ·cases h
     ·cases h
    ·cases h
   ·split at h
    ·split at h
     ·simp only [Option.some.injEq] at h;subst h;exact fits_read
     ·cases h
    ·cases h
   ·split at h
    ·split at h
     ·simp only [Option.some.injEq] at h;subst h;exact fits_read
     ·cases h
    ·cases h
   ·cases h
  ·cases h
 case index t x i=>
  simp only [fop] at h
  split at h
  ·rename_i zx zi hx hi
   refine⟨qrA rfl hx hi h,?_⟩
   unfold findex at h
   split at h
   ·split at h
    ·split at h
     ·simp only [Option.map_eq_some_iff] at h;obtain⟨x,_,rfl⟩:=h;exact fits_read
     ·cases h
    ·cases h
   ·split at h
    ·simp only [Option.map_eq_some_iff] at h;obtain⟨x,_,rfl⟩:=h;exact fits_read
    ·cases h
   ·cases h
  ·cases h
 case field t x f=>
  simp only [fop,Option.bind_eq_some_iff] at h
  obtain⟨z,hz,h⟩:=h
  refine⟨qry rfl hz h,?_⟩
  unfold ffield at h
  split at h
  ·split at h
   ·simp only [Option.map_eq_some_iff] at h;obtain⟨x,_,rfl⟩:=h;exact fits_read
   ·cases h
  ·cases h
 case slice t x lo hi mx=>
  simp only [fop] at h
  split at h
  ·rename_i zx zlo zhi zmx hx hlo hhi hmx
   refine⟨f_slice rfl hx hlo hhi hmx h,?_⟩
   unfold qez at h
   split at h
   ·split at h
    ·split at h
     ·split at h
      ·simp only [Option.some.injEq] at h;subst h;exact fits_read
      ·cases h
     ·cases h
    ·split at h
     ·rename_i hb
      split at h
      ·simp only [Option.some.injEq] at h;subst h;exact⟨by simpa using hb, .inl ⟨rfl,by simp⟩⟩
      ·cases h
     ·cases h
    ·split at h
     ·simp only [Option.some.injEq] at h;subst h;exact fits_read
     ·cases h
    ·split at h
     ·simp only [Option.some.injEq] at h;subst h;exact fits_read
     ·cases h
    ·split at h
     ·simp only [Option.some.injEq] at h;subst h;exact fits_read
     ·cases h
    ·cases h
   ·split at h
    all_goals first
     | (cases h;done)
     | (simp only [Option.some.injEq] at h;subst h;exact fits_read)
  ·cases h
 case binOp op t x y t'=>
  simp only [fop] at h
  split at h
  ·rename_i zx zy hx hy
   unfold orE at h
   split at h
   ·rename_i fr' h'
    cases h
    refine⟨f_bin rfl hx hy h',?_⟩
    unfold fbin at h'
    split at h'
    ·simp only [Option.map_eq_some_iff] at h';obtain⟨x,_,rfl⟩:=h';exact fits_read
    ·cases h'
   ·have fin:(fr.ok P ⟨dst, .binOp op t x y t',ty,pos,after,guard⟩ ρ∧fr.R= []∧fr.F= []∧fr.W= [])→fr.ok P ⟨dst, .binOp op t x y t',ty,pos,after,guard⟩ ρ∧fr.fits G nx:=by
     rintro⟨h1,h2,h3,h4⟩
     refine⟨h1,?_, .inl ⟨h3,?_⟩⟩
     ·rw [h2];simp
     ·rw [h4];simp
    split at h
    ·rename_i fr' h'
     cases h
     exact fin (qrC (o:=⟨dst, .binOp op t x y t',ty,pos,after,guard⟩) rfl hx hy h')
    ·split at h
     ·rename_i fr' h'
      cases h
      exact fin (f_eqv (o:=⟨dst, .binOp op t x y t',ty,pos,after,guard⟩) rfl hx hy h')
     ·obtain⟨h1,h2,h3,h4⟩:=qrD (o:=⟨dst, .binOp op t x y t',ty,pos,after,guard⟩) rfl hx hy h
      exact⟨h1,h2, .inl ⟨h3,by rw [h4];simp⟩⟩
  ·cases h
 case unOp op t x=>
  simp only [fop,Option.bind_eq_some_iff] at h
  obtain⟨z,hz,h⟩:=h
  refine⟨f_un rfl hz h,?_⟩
  unfold fun1 at h
  split at h
  ·simp only [Option.map_eq_some_iff] at h;obtain⟨x,_,rfl⟩:=h;exact fits_read
  ·cases h
 case convert s d x=>
  simp only [fop,Option.bind_eq_some_iff] at h
  obtain⟨z,hz,h⟩:=h
  unfold orE at h
  split at h
  ·rename_i fr' h'
   cases h
   refine⟨f_conv rfl hz h',?_⟩
   unfold fconv at h'
   split at h'
   ·simp only [Option.map_eq_some_iff] at h';obtain⟨x,_,rfl⟩:=h';exact fits_read
   ·cases h'
  ·obtain⟨h1,⟨rs,h2⟩,h3,h4⟩:=f_b2s (o:=⟨dst, .convert s d x,ty,pos,after,guard⟩) rfl hz h
   refine⟨h1,irows_reads h2, .inl ⟨h3,?_⟩⟩
   rw [h4];simp
 case makeMap t r=>
  simp only [fop] at h
  split at h
  ·refine⟨qrB rfl rfl h,?_⟩
   simp only [fmkmap,Option.some.injEq] at h;subst h
   exact⟨by simp, .inr ⟨rfl,_,rfl⟩⟩
  ·cases h
 case lookup t x i ok=>
  simp only [fop] at h
  split at h
  ·rename_i zx zi hx hi
   refine⟨qqr rfl hx hi h,?_⟩
   unfold qex at h
   split at h
   ·rename_i hl
    simp only [Option.some.injEq] at h;subst h
    exact⟨by simpa using mlook_G hl, .inl ⟨rfl,by simp⟩⟩
   ·rename_i hl
    split at h
    ·simp only [Option.some.injEq] at h;subst h
     exact⟨by simpa using mlook_G hl, .inl ⟨rfl,by simp⟩⟩
    ·cases h
   ·cases h
  ·cases h
 case mapUpdate t m k x=>
  simp only [fop] at h
  split at h
  ·rename_i zm zk zx hm hk hx
   exact⟨qk9 (.inl rfl) hm hk hx h,fmapupd_fits h⟩
  ·cases h
 case insert t m k x=>
  simp only [fop] at h
  split at h
  ·rename_i zm zk zx hm hk hx
   exact⟨qk9 (.inr rfl) hm hk hx h,fmapupd_fits h⟩
  ·cases h
 case mapEntry t m k=>
  simp only [fop] at h
  split at h
  ·rename_i zm zk hm hk
   refine⟨f_mapent rfl hm hk h,?_⟩
   unfold qey at h
   split at h
   ·rename_i hl
    simp only [Option.some.injEq] at h;subst h
    exact⟨by simpa using mlook_G hl, .inl ⟨rfl,by simp⟩⟩
   ·rename_i hl
    split at h
    ·simp only [Option.some.injEq] at h;subst h
     exact⟨by simpa using mlook_G hl, .inl ⟨rfl,by simp⟩⟩
    ·cases h
   ·cases h
  ·cases h
 case entryStore t m s x=>
  simp only [fop] at h
  split at h
  ·rename_i zm zs zx hm hs hx
   refine⟨f_entst rfl hm hs hx h,?_⟩
   unfold qfC at h
   split at h
   ·split at h
    ·rename_i hb
     split at h
     ·split at h
      ·simp only [Option.some.injEq] at h;subst h
       exact⟨by simpa using hb, .inl ⟨rfl,by simp⟩⟩
      ·cases h
     ·cases h
    ·cases h
   ·cases h
  ·cases h
 case typeAssert x xt t ok=>
  simp only [fop,Option.bind_eq_some_iff] at h
  obtain⟨z,hz,h⟩:=h
  obtain⟨h1,h2,h3,h4⟩:=qqq (o:=⟨dst, .typeAssert x xt t ok,ty,pos,after,guard⟩) rfl hz h
  refine⟨h1,?_, .inl ⟨h3,?_⟩⟩
  ·rw [h2];simp
  ·rw [h4];simp
 case extract x i=>
  simp only [fop,Option.bind_eq_some_iff] at h
  obtain⟨z,hz,h⟩:=h
  refine⟨qpr rfl hz h,?_⟩
  unfold fextract at h
  split at h
  ·simp only [Option.map_eq_some_iff] at h;obtain⟨x,_,rfl⟩:=h;exact fits_read
  ·cases h
 case makeFunc fn first cap=>
  simp only [fop] at h
  split at h
  ·rename_i zf zc hf hc
   simp only [Option.some.injEq] at h;subst h
   exact⟨f_func (first:=first.toList) (cap:=cap.toList) rfl hf hc,fits_read⟩
  ·cases h
 case makeInterface t x=>
  simp only [fop,Option.bind_eq_some_iff] at h
  obtain⟨z,hz,h⟩:=h
  refine⟨f_iface rfl hz h,?_⟩
  unfold fiface at h
  split at h
  ·split at h
   ·cases h
   ·simp only [Option.some.injEq] at h;subst h;exact fits_read
   ·cases h
  ·split at h
   ·cases h
   ·simp only [Option.some.injEq] at h;subst h;exact fits_read
   ·cases h
  ·cases h
 case nilCheck x=>
  simp only [fop,Option.bind_eq_some_iff] at h
  obtain⟨z,hz,h⟩:=h
  refine⟨f_nil rfl hz h,?_⟩
  unfold fnil at h
  split at h
  all_goals first
   | (cases h;done)
   | (simp only [Option.some.injEq] at h;subst h;exact fits_read)
 case build t parts=>
  simp only [fop,Option.bind_eq_some_iff] at h
  obtain⟨z,hz,h⟩:=h
  refine⟨f_build (parts:=parts.toList) rfl hz h,?_⟩
  unfold qev at h
  split at h
  ·split at h
   ·split at h
    ·simp only [Option.map_eq_some_iff] at h;obtain⟨x,_,rfl⟩:=h;exact fits_read
    ·split at h
     ·simp only [Option.map_eq_some_iff] at h;obtain⟨x,_,rfl⟩:=h;exact fits_read
     ·cases h
    ·cases h
   ·cases h
  ·cases h
 case buildSlice t len parts=>
  simp only [fop,Option.bind_eq_some_iff] at h
  obtain⟨z,hz,h⟩:=h
  refine⟨qk8 (parts:=parts.toList) rfl hz h,?_⟩
  unfold qcN at h
  split at h
  ·split at h
   ·simp only [Option.some.injEq] at h;subst h;exact fits_read
   ·simp only [Option.some.injEq] at h;subst h;exact⟨by simp, .inr ⟨rfl,_,rfl⟩⟩
  ·cases h
 case box t x=>
  simp only [fop,Option.bind_eq_some_iff] at h
  obtain⟨z,hz,h⟩:=h
  refine⟨f_box rfl hz h,?_⟩
  unfold fbox at h
  simp only [Option.map_eq_some_iff] at h
  obtain⟨cs,_,rfl⟩:=h
  exact⟨by simp, .inr ⟨rfl,_,rfl⟩⟩
 case alloc t=>
  simp only [fop] at h
  refine⟨qrv rfl h,?_⟩
  unfold qet at h
  split at h
  ·split at h
   ·simp only [Option.some.injEq] at h;subst h;exact⟨by simp, .inr ⟨rfl,_,rfl⟩⟩
   ·cases h
  ·cases h
 case makeSlice t l c=>
  simp only [fop] at h
  split at h
  ·rename_i zl zc hl hc
   refine⟨f_make rfl hl hc h,?_⟩
   unfold fmake at h
   split at h
   ·split at h
    ·split at h
     ·split at h
      ·simp only [Option.some.injEq] at h;subst h;exact⟨by simp, .inr ⟨rfl,_,rfl⟩⟩
      ·cases h
     ·cases h
    ·cases h
   ·cases h
  ·cases h
 case store t p x=>
  simp only [fop] at h
  split at h
  ·rename_i zp zx hp hx
   refine⟨qrE rfl hp hx h,?_⟩
   unfold fstore at h
   split at h
   ·split at h
    ·rename_i hb hn
     split at h
     ·split at h
      ·split at h
       ·simp only [Option.some.injEq] at h;subst h;exact⟨by simpa using hb, .inl ⟨rfl,by simp⟩⟩
       ·cases h
      ·cases h
     ·cases h
    ·cases h
   ·cases h
  ·cases h
 case call c=>
  obtain⟨callee,args,argTypes⟩:=c
  cases callee
  case builtin b=>
   simp only [fop] at h
   split at h
   ·split at h
    ·rename_i x t ha ht
     simp only [Option.bind_eq_some_iff] at h
     obtain⟨zx,hx,h⟩:=h
     split at h
     ·rename_i hk
      have ea:args= #[x]:=by apply Array.ext';simpa using ha
      have et:argTypes= #[t]:=by apply Array.ext';simpa using ht
      subst ea;subst et
      obtain⟨h1,h2,h3,h4⟩:=f_cap (o:=⟨dst, .call {callee:= .builtin .cap,args:=#[x],argTypes:=#[t]},ty,pos,after,guard⟩) rfl hx hk h
      refine⟨h1,?_, .inl ⟨h3,?_⟩⟩
      ·rw [h2];simp
      ·rw [h4];simp
     ·cases h
    ·cases h
   ·split at h
    ·rename_i x t ha ht
     simp only [Option.bind_eq_some_iff] at h
     obtain⟨zx,hx,h⟩:=h
     split at h
     ·rename_i hk
      have ea:args= #[x]:=by apply Array.ext';simpa using ha
      have et:argTypes= #[t]:=by apply Array.ext';simpa using ht
      subst ea;subst et
      refine⟨f_len rfl hx hk h,?_⟩
      unfold flen at h
      split at h
      all_goals first
       | (cases h;done)
       | (simp only [Option.some.injEq] at h;subst h;exact fits_read)
       | (split at h
          ·rename_i hb;simp only [Option.some.injEq] at h;subst h;exact⟨by simpa using hb, .inl ⟨rfl,by simp⟩⟩
          ·cases h)
     ·cases h
    ·cases h
   ·split at h
    ·rename_i s x t1 t2 ha ht
     split at h
     ·rename_i zs zx hs hx
      have ea:args= #[s,x]:=by apply Array.ext';simpa using ha
      have et:argTypes= #[t1,t2]:=by apply Array.ext';simpa using ht
      subst ea;subst et
      unfold orE at h
      split at h
      rotate_left
      ·obtain⟨h1,h2,h3,h4⟩:=f_appz (o:=⟨dst, .call {callee:= .builtin .append,args:=#[s,x],argTypes:=#[t1,t2]},ty,pos,after,guard⟩) rfl hs hx h
       exact⟨h1,by rw [h2];simp, .inr ⟨h3,h4⟩⟩
      rename_i h
      cases ‹some _=some fr›
      refine⟨f_app rfl hs hx h,?_⟩
      unfold fapp at h
      split at h
      ·split at h
       ·rename_i hrx
        split at h
        ·split at h
         ·simp only [Option.some.injEq] at h;subst h;exact⟨iapp_reads hrx, .inr ⟨rfl,_,rfl⟩⟩
         ·cases h
        ·split at h
         ·simp only [Option.some.injEq] at h;subst h;exact⟨iapp_reads hrx, .inr ⟨rfl,_,rfl⟩⟩
         ·cases h
        ·split at h
         ·rename_i rs Rs hrs
          split at h
          ·simp only [Option.some.injEq] at h;subst h
           refine⟨fun p hp=>?_, .inl ⟨rfl,?_⟩⟩
           ·rcases List.mem_append.1 hp with hp | hp
            ·exact irows_reads hrs p hp
            ·exact iapp_reads hrx p hp
           ·have hrs':=hrs
            unfold qco at hrs'
            simp only at hrs'
            split at hrs'
            ·split at hrs'
             ·simp only [Option.some.injEq,Prod.mk.injEq] at hrs'
              rw [←hrs'.2]
              simp only [List.mem_cons,List.not_mem_nil,or_false,forall_eq]
              exact⟨_,List.mem_append.2 (.inl (List.mem_cons_self))⟩
             ·cases hrs'
            ·cases hrs'
          ·cases h
         ·cases h
        ·cases h
       ·cases h
      ·cases h
     ·cases h
    ·cases h
   ·split at h
    ·rename_i s x t1 ts ha ht
     split at h
     ·rename_i zs zx hs hx
      have ea:args= #[s,x]:=by apply Array.ext';simpa using ha
      have et:argTypes[0]? =some t1:=by rw [←Array.getElem?_toList,ht];rfl
      subst ea
      refine⟨f_copy rfl et hs hx h,?_⟩
      unfold qgb at h
      split at h
      ·split at h
       ·split at h
        ·rename_i hb hrx
         split at h
         ·simp only [Option.some.injEq] at h;subst h
          refine⟨fun p hp=>?_, .inl ⟨rfl,?_⟩⟩
          ·rcases List.mem_cons.1 hp with rfl | hp
           ·exact hb
           ·exact iapp_reads hrx p hp
          ·simp only [List.mem_cons,List.not_mem_nil,or_false,forall_eq]
           exact⟨_, .inl rfl⟩
         ·cases h
        ·cases h
       ·cases h
      ·cases h
     ·cases h
    ·cases h
   ·split at h
    ·rename_i x t ha ht
     simp only [Option.bind_eq_some_iff] at h
     obtain⟨zx,hx,h⟩:=h
     have ea:args= #[x]:=by apply Array.ext';simpa using ha
     have et:argTypes= #[t]:=by apply Array.ext';simpa using ht
     subst ea;subst et
     obtain⟨h1,h2,h3,h4⟩:=qrw (o:=⟨dst, .call {callee:= .builtin .clear,args:=#[x],argTypes:=#[t]},ty,pos,after,guard⟩) rfl hx h
     exact⟨h1,h2, .inl ⟨h3,h4⟩⟩
    ·cases h
   ·simp only [Option.bind_eq_some_iff] at h
    obtain⟨zs,hz,h⟩:=h
    refine⟨f_max (mx:=true) (args:=args.toList) rfl hz h,?_⟩
    unfold fmax at h
    split at h
    ·simp only [Option.map_eq_some_iff] at h;obtain⟨x,_,rfl⟩:=h;exact fits_read
    ·cases h
   ·simp only [Option.bind_eq_some_iff] at h
    obtain⟨zs,hz,h⟩:=h
    refine⟨f_max (mx:=false) (args:=args.toList) rfl hz h,?_⟩
    unfold fmax at h
    split at h
    ·simp only [Option.map_eq_some_iff] at h;obtain⟨x,_,rfl⟩:=h;exact fits_read
    ·cases h
   ·cases h
  case value f=>
   simp only [fop] at h
   obtain⟨args⟩:=args
   obtain⟨h1,h2,h3,h4⟩:=f_callx (o:=⟨dst, .call {callee:= .value f,args:=⟨args⟩,argTypes:=argTypes},ty,pos,after,guard⟩) rfl h
   refine⟨h1,?_, .inl ⟨h3,?_⟩⟩
   ·rw [h2];simp
   ·rw [h4];simp
  all_goals(simp [fop] at h)
 all_goals(simp [fop] at h)
end Go.Idl
/-
 Code is told of in a round of a loop over a function, too: what the rules of the walk stand on.
-/
namespace Go.Idl
variable {P:Program}
def Wd (ro:Option Nat):Fence:= {Fence.wide with round:=ro}
def ndOp (o:Oper):Bool:=match o.op with
 | .defer _=>false
 | _=>true
def ndC:Code→Bool
 | .seq a b=>ndC a && ndC b
 | .cond _ a b=>ndC a && ndC b
 | .block _ c=>ndC c
 | .loop c=>ndC c
 | .region _ ops _=>ops.toList.all ndOp
 | .skip=>true
 | .label _=>true
 | .exit _=>true
 | .goto _=>true
 | .ret=>true
 | _=>false
def RoOk (ro:Option Nat) (b:Bool):Prop:=ro=none∨b=true
theorem RoOk.l {ro:Option Nat} {a b:Bool} (h:RoOk ro (a && b)):RoOk ro a:=h.imp id fun h=>by simp only [Bool.and_eq_true] at h;exact h.1
theorem RoOk.r {ro:Option Nat} {a b:Bool} (h:RoOk ro (a && b)):RoOk ro b:=h.imp id fun h=>by simp only [Bool.and_eq_true] at h;exact h.2
theorem RoOk.mem {ro:Option Nat} {l:List Oper} {o:Oper} (h:RoOk ro (l.all ndOp)) (hm:o∈l):RoOk ro (ndOp o):=h.imp id fun h=>List.all_eq_true.1 h o hm
theorem RoOk.tl {ro:Option Nat} {l:List Oper} {o:Oper} (h:RoOk ro ((o::l).all ndOp)):RoOk ro (l.all ndOp):=h.imp id fun h=>by simp only [List.all_cons,Bool.and_eq_true] at h;exact h.2
theorem qr5 {ro:Option Nat} {n:Nat} {row:String} {args:Array Value} {w:World} {R:Value→World→Prop} (h:Rows P row args w R):RowsIn (Wd ro) n P row args w R:=
 fun c cs _=>let ⟨v,w',r,s⟩:=h c cs;⟨v,w',r,stepsIn_wide.2 s⟩
theorem qk3 {ro:Option Nat} {n:Nat} {f:FuncId} {args:Array Value} {w:World} {R:Ending→World→Prop} (h:Calls P f args w R):CallsIn (Wd ro) n P f args w R:=
 (callsIn_wide (n:=n)).2 h
theorem qlT {ro:Option Nat} {ρ:Operand→Value} {o:Oper} (h:RoOk ro (ndOp o)):o.semAt ro ρ=execOp ρ o:=by
 rcases h with h | h
 ·rw [h];rfl
 ·refine Oper.semAt_eq ro ρ o fun c hc=>?_
  unfold ndOp at h
  rw [hc] at h
  cases h
theorem oper_wd {ro:Option Nat} {n:Nat} {o:Oper} {a:Act} {w:World} {K:Act→World→Prop} {Q:Exit→Act→World→Prop} (hn:RoOk ro (ndOp o)) (h:o.wp P a w K Q):o.wpIn (Wd ro) n P a w K Q:=by
 refine⟨fun _ _=>trivial,?_⟩
 rw [show o.semAt (Wd ro).round a.eval=execOp a.eval o from qlT hn]
 unfold Oper.wp at h
 generalize (execOp a.eval o).run P w=r at *
 cases r with
 | ok x w'=>
   cases x<;>simp only [Oper.upon,Oper.uponIn] at h ⊢
   case value v=>exact h
   case skip=>exact h
   case defer d=>exact h
   case enter f args=>exact⟨fun h=>(by cases h),qk3 h⟩
   case row row args=>exact⟨fun h=>(by cases h),qr5 h⟩
 | halt x w'=>cases x<;>simp only [Oper.upon,Oper.uponIn] at h ⊢;exact h
section
variable {ro:Option Nat} {ops:Array Oper} {Q:Exit→Act→World→Prop} {a:Act} {w:World} {rest:List Oper} {o:Oper}
theorem wpListW_step (hn:RoOk ro (ndOp o)) (h: ∀K:Act→World→Prop,(∀a w,wpListIn (Wd ro) 0 P ops Q rest a w→K a w)→
   if Region.wanted o (yielded ops a.tmps) then o.wp P a w K Q else K (a.put o.dst undef) w):wpListIn (Wd ro) 0 P ops Q (o::rest) a w:=
 wpListIn_step fun K hK=>by
  have h:=h K hK
  split
  ·rename_i hw;rw [if_pos hw] at h;exact oper_wd hn h
  ·rename_i hw;rw [if_neg hw] at h;exact⟨fun _ _=>trivial,h⟩
theorem qkf {i:Nat} {K:Act→World→Prop} (hn: ∀o,ops[i]? =some o→RoOk ro (ndOp o)) (h:match ops[i]? with
  | none=>K a w
  | some o=>if Region.wanted o (yielded ops a.tmps) then o.wp P a w K Q else K (a.put o.dst undef) w):wpOpIn (Wd ro) 0 P ops Q i K a w:=by
 unfold wpOpIn
 split at h
 ·rename_i e;simp only [e];exact h
 ·rename_i o e
  simp only [e]
  split
  ·rename_i hw;rw [if_pos hw] at h;exact oper_wd (hn o e) h
  ·rename_i hw;rw [if_neg hw] at h;exact⟨fun _ _=>trivial,h⟩
end
def ncOp (o:Oper):Bool:=match o.op with
 | .call _=>false
 | .nilCheck _=>false
 | .pick .. =>false
 | .recv .. =>false
 | .select .. =>false
 | .go _=>false
 | .defer _=>false
 | .send .. =>false
 | _=>true
theorem no_round_v {s:Sem Value} {w w':World} {l:Nat} {f:FuncId} {t:Array Value} {a b:Code} (e:(do let x ←s;pure (Next.value x):Sem Next).run P w= .ok (.round l f t a b) w'):False:=by
 rw [Sem.run_bind] at e
 cases hs:s.run P w with
 | ok x w1=>rw [hs] at e;simp only [Result.andThen,Sem.run_pure] at e;cases e
 | halt x w1=>rw [hs] at e;simp only [Result.andThen] at e;cases e
theorem no_round_u {s:Sem Unit} {w w':World} {l:Nat} {f:FuncId} {t:Array Value} {a b:Code} (e:(do s;pure Next.skip:Sem Next).run P w= .ok (.round l f t a b) w'):False:=by
 rw [Sem.run_bind] at e
 cases hs:s.run P w with
 | ok x w1=>rw [hs] at e;simp only [Result.andThen,Sem.run_pure] at e;cases e
 | halt x w1=>rw [hs] at e;simp only [Result.andThen] at e;cases e
theorem no_round {o:Oper} {ρ:Operand→Value} {w w':World} {l:Nat} {f:FuncId} {t:Array Value} {a b:Code} (h:ncOp o=true) (e:(execOp ρ o).run P w= .ok (.round l f t a b) w'):False:=by
 unfold execOp at e
 unfold ncOp at h
 cases ho:o.op<;>first
  | (rw [ho] at h;cases h;done)
  | (simp only [ho] at e;first | exact no_round_v e | exact no_round_u e | (simp only [Sem.run_pure] at e;cases e;done))
theorem wpList_of_wd {ops:Array Oper} {Q:Exit→Act→World→Prop}: ∀(l:List Oper) (a:Act) (w:World),l.all ncOp=true→wpListIn (Wd none) 0 P ops Q l a w→wpList P ops Q l a w
 | [],a,w,_,h=>h
 | o::r,a,w,hn,h=>by
   simp only [List.all_cons,Bool.and_eq_true] at hn
   unfold wpListIn at h
   unfold wpList
   split at h
   ·rename_i hw
    rw [if_pos hw]
    refine .inl ?_
    unfold Oper.wpIn at h
    unfold Oper.wp
    have h2:=h.2
    rw [show o.semAt (Wd none).round a.eval=execOp a.eval o from rfl] at h2
    cases hr:(execOp a.eval o).run P w with
    | ok x w'=>
      rw [hr] at h2
      cases x<;>simp only [Oper.upon,Oper.uponIn] at h2 ⊢
      case value v=>exact wpList_of_wd r _ _ hn.2 h2
      case skip=>exact wpList_of_wd r _ _ hn.2 h2
      case defer d=>exact wpList_of_wd r _ _ hn.2 h2
      case enter f args=>
       refine((callsIn_wide (n:=0 - 1)).1 h2.2).mono fun e w' he=>?_
       cases e with
       | returned v=>exact wpList_of_wd r _ _ hn.2 he
       | panicked ch=>exact he
       | outgrown=>exact he
      case row row args=>
       intro c cs
       obtain⟨v,w',r1,s⟩:=h2.2 c cs (room_wide _)
       exact⟨v,w',wpList_of_wd r _ _ hn.2 r1,stepsIn_wide.1 s⟩
      case round l f t c d=>exact(no_round hn.1 hr).elim
    | halt x w'=>
      rw [hr] at h2
      cases x<;>simp only [Oper.upon,Oper.uponIn] at h2 ⊢;exact h2
   ·rename_i hw
    rw [if_neg hw]
    exact wpList_of_wd r _ _ hn.2 h.2
end Go.Idl
/-
 Running code from a state of the ideal machine: the judgements and their rules.
-/
namespace Go.Idl
variable {P:Program} {h0:IH}
def qcA (h0:IH) (M0:Mem) (Q:Exit→qaa→Prop) (e:Exit) (a':Act) (w':World):Prop:=
 ∃M' S',M'.w=w'∧qae M0 M'∧SRel h0 S' M' a'∧Q e S'
def qbd (P:Program) (h0:IH) (c:Code) (S:qaa) (Q:Exit→qaa→Prop):Prop:=
 ∀M0,HRel h0.nx h0.m M0→ ∀M a,qae M0 M→SRel h0 S M a→ ∀ro,RoOk ro (ndC c)→c.wpIn (Wd ro) 0 P (qcA h0 M0 Q) a M.w
def IOps (P:Program) (h0:IH) (all:Array Oper) (l:List Oper) (S:qaa) (Q:Exit→qaa→Prop):Prop:=
 ∀M0,HRel h0.nx h0.m M0→ ∀M a,qae M0 M→SRel h0 S M a→ ∀ro,RoOk ro (l.all ndOp)→wpListIn (Wd ro) 0 P all (qcA h0 M0 Q) l a M.w
inductive IEnd where
 | ret (x:IV)
 | pan (chain:List PanicEntry)
def qbF (M:Mem):IEnd→Ending→Prop
 | .ret x,e=> ∃v,e= .returned v∧VRel M x v
 | .pan ch,e=>e= .panicked ch
def qa5 (P:Program) (f:FuncId) (args:List IV) (h:IH) (Q:IEnd→Nat→List (Nat × IBlk)→Prop):Prop:=
 ∀(M:Mem) (vs:List Value),HRel h.nx h.m M→vs.length=args.length→(∀(i:Nat) (x:IV) (v:Value),args[i]? =some x→vs[i]? =some v→VRel M x v)→
  Calls P f ⟨vs⟩ M.w fun e w'=> ∃M' nx' l' r,M'.w=w'∧qae M M'∧HRel nx' (l'++h.m) M'∧qbF M' r e∧Q r nx' l'
theorem qa5.mono {f:FuncId} {args:List IV} {h:IH} {Q Q':IEnd→Nat→List (Nat × IBlk)→Prop} (hc:qa5 P f args h Q) (hq: ∀r nx l,Q r nx l→Q' r nx l):qa5 P f args h Q':=by
 intro M vs hM hl hr
 exact(hc M vs hM hl hr).mono fun e w' ⟨M',nx',l',r,h1,h2,h3,h4,h5⟩=>⟨M',nx',l',r,h1,h2,h3,h4,hq _ _ _ h5⟩
/-! ### operations -/
theorem qqH {all:Array Oper} {S:qaa} {Q:Exit→qaa→Prop} (h:Q .normal S):IOps P h0 all [] S Q:=
 fun _ _ M _ hs hr _ _=>wpListIn_nil ⟨M,S,rfl,hs,hr,h⟩
def qfO (all:Array Oper) (s:List (Nat × IV)) (j:Nat):Option (Option Bool):=
 match(all[j]?).bind (·.dst) with
 | some d=>match look s d with
   | some (.p (.sc (.bool b)))=>some (some b)
   | some (.tup [])=>some none
   | _=>none
 | none=>none
def qkh:Option Bool→Bool→Bool
 | some b,w=>b==w
 | none,_=>false
def qai (all:Array Oper) (s:List (Nat × IV)) (o:Oper):Option Bool:=
 match o.guard with
 | none=>some true
 | some (j,want)=>(qfO all s j).map fun b=>qkh b want
theorem qa4 {all:Array Oper} {S:qaa} {M:Mem} {a:Act} (h:SRel h0 S M a) {o:Oper} {b:Bool} (hw:qai all S.s o=some b):Region.wanted o (yielded all a.tmps)=b:=by
 unfold qai at hw
 unfold Region.wanted
 split at hw
 ·rename_i hg
  simp only [Option.some.injEq] at hw;subst hw
  simp [hg]
 ·rename_i j want hg
  simp only [Option.map_eq_some_iff] at hw
  obtain⟨t,ht,rfl⟩:=hw
  simp only [hg]
  unfold qfO at ht
  split at ht
  ·rename_i d hd
   split at ht
   ·rename_i t' hl
    simp only [Option.some.injEq] at ht;subst ht
    obtain⟨v,h1,h2⟩:=h.slot d _ hl
    have:=h2.sc_inv;subst this
    have hy:yielded all a.tmps j=some t':=by
     simp only [yielded,hd,Option.bind_some,h1]
    rw [hy]
    cases t'<;>cases want<;>rfl
   ·rename_i hl
    simp only [Option.some.injEq] at ht;subst ht
    obtain⟨v,h1,h2⟩:=h.slot d _ hl
    cases h2 with
    | tup cs vs hl' r=>
      have hy:yielded all a.tmps j=none:=by
       simp only [yielded,hd,Option.bind_some,h1]
      rw [hy]
      cases want<;>rfl
   ·cases ht
  ·cases ht
theorem fits_dom {fr:FR} {nx:Nat} {m:List (Nat × IBlk)} {M:Mem} (hM:HRel nx m M) (h:fr.fits (look m) nx):
  ∀b,(b < nx∨ ∃blk,(b,blk)∈fr.W)→b < nx+fr.F.length:=by
 intro b hb
 rcases hb with hb | ⟨blk,hb⟩
 ·omega
 ·rcases h.new with ⟨hF,hW⟩ | ⟨hF,blk,hW⟩
  ·obtain⟨blk',hb'⟩:=hW _ hb
   have:=h.reads _ hb'
   simp only at this
   rw [←hM.G b] at this
   have:=hM.A b (hM.rel.dom b _ this)
   omega
  ·rw [hW] at hb
   simp only [List.mem_cons,Prod.mk.injEq,List.not_mem_nil,or_false] at hb
   rw [hF,hb.1]
   simp
theorem iops_op {all:Array Oper} {o:Oper} {r:List Oper} {S:qaa} {Q:Exit→qaa→Prop} {fr:FR} (hw:qai all S.s o=some true)
  (hf:fop P (ev S.s) (look (S.l++h0.m)) S.nx all o.dst o.op=some fr) (hd:qaE S o.dst=true)
  (h:IOps P h0 all r (S.put o.dst fr.x (S.nx+fr.F.length) fr.W.reverse) Q):IOps P h0 all (o::r) S Q:=by
 intro M0 hM0 M a hs hr ro hro
 obtain⟨hdo,hfit⟩:=fop_sound hf
 refine wpListW_step (hro.mem (List.mem_cons_self ..)) fun K hK=>?_
 rw [if_pos (qa4 hr hw)]
 refine hdo M a hr.heap.rel (fun p hp=>by rw [hr.heap.G];exact hfit.reads p hp) (fun b hb=>?_) (fun y _ z hz=>qaH hr.slot hz) K _ fun v M' st rel hH hv=>?_
 ·rcases hfit.new with ⟨hF,_⟩ | ⟨hF,_⟩
  ·rw [hF] at hb;cases hb
  ·rw [hF] at hb
   simp only [List.mem_cons,List.not_mem_nil,or_false] at hb
   subst hb
   exact fun hb=>Nat.lt_irrefl _ (hr.heap.A _ hb)
 ·refine hK _ _ (h M0 hM0 M' _ (hs.trans st) (hr.step st hd hv ?_) ro hro.tl)
  have:=hr.heap.upd rel hH (S.nx+fr.F.length) (fits_dom hr.heap hfit)
  rw [List.append_assoc]
  exact this
theorem qin (M:Mem):VRel M (.tup []) undef:= .tup [] [] rfl (fun i x v h=>by simp at h)
theorem iops_skip {all:Array Oper} {o:Oper} {r:List Oper} {S:qaa} {Q:Exit→qaa→Prop} (hw:qai all S.s o=some false) (hd:qaE S o.dst=true)
  (h:IOps P h0 all r (S.put o.dst (.tup []) S.nx []) Q):IOps P h0 all (o::r) S Q:=by
 intro M0 hM0 M a hs hr ro hro
 refine wpListW_step (hro.mem (List.mem_cons_self ..)) fun K hK=>?_
 rw [qa4 hr hw]
 exact hK _ _ (h M0 hM0 M _ hs (hr.step (.refl M) hd (qin M) hr.heap) ro hro.tl)
def qas (ρ:Operand→Option IV) (f:Operand) (args:List Operand):Option (FuncId × List IV):=
 match ρ f,qbr ρ args with
 | some (.p (.sc (.func (.func n) ⟨[]⟩ ⟨[]⟩))),some zs=>some (n,zs)
 | some (.clo (.func n) first cap),some zs=>some (n,first++zs++cap)
 | _,_=>none
def fnOk (P:Program) (n:FuncId):Bool:=
 match P.funcs[n]? with
 | some fn=>fn.name != "runtime.NumGoroutine" && fn.body.isSome
 | none=>false
theorem qbW {n:FuncId} (h:fnOk P n=true) (args:Array Value) (w:World):(callFunc n args).run P w= .ok (.enter n args) w:=by
 unfold fnOk at h
 cases hf:P.funcs[n]? with
 | none=>simp [hf] at h
 | some fn=>
   simp only [hf,Bool.and_eq_true,bne_iff_ne,ne_eq] at h
   obtain⟨h1,h2⟩:=h
   cases hb:fn.body with
   | none=>simp [hb] at h2
   | some c=>simp [callFunc,hf,h1,hb]
theorem qbG {M:Mem} {xs ys:List IV} {us vs:List Value} (hl:us.length=xs.length) (h1: ∀(i:Nat) (x:IV) (v:Value),xs[i]? =some x→us[i]? =some v→VRel M x v)
  (h2: ∀(i:Nat) (x:IV) (v:Value),ys[i]? =some x→vs[i]? =some v→VRel M x v):
  ∀(i:Nat) (x:IV) (v:Value),(xs++ys)[i]? =some x→(us++vs)[i]? =some v→VRel M x v:=by
 intro i x v hx hv
 rw [List.getElem?_append] at hx hv
 rw [hl] at hv
 split at hx
 ·rename_i hi;rw [if_pos hi] at hv;exact h1 i x v hx hv
 ·rename_i hi;rw [if_neg hi] at hv;exact h2 _ x v hx hv
theorem run_icall {o:Oper} {f:Operand} {args:List Operand} {ts:Array TypeId} {n:FuncId} {zs:List IV} {S:qaa} {M:Mem} {a:Act} (hr:SRel h0 S M a)
  (ho:o.op= .call {callee:= .value f,args:=⟨args⟩,argTypes:=ts}) (hc:qas (ev S.s) f args=some (n,zs)) (hn:fnOk P n=true):
  ∃vs:List Value,(execOp a.eval o).run P M.w= .ok (.enter n ⟨vs⟩) M.w∧vs.length=zs.length∧ ∀(i:Nat) (x:IV) (v:Value),zs[i]? =some x→vs[i]? =some v→VRel M x v:=by
 unfold qas at hc
 split at hc
 ·rename_i n' zs' hf ha
  simp only [Option.some.injEq,Prod.mk.injEq] at hc
  obtain⟨rfl,rfl⟩:=hc
  have e:=(qaH hr.slot hf).sc_inv
  obtain⟨l1,l2⟩:=qbo (M:=M) (a:=a) ha fun y _ z hz=>qaH hr.slot hz
  refine⟨args.map a.eval,?_,l1,l2⟩
  simp only [execOp,ho,resolve,e,Deferred.ofValue,Sem.run_bind,Sem.run_pure,Result.andThen_ok,invoke]
  rw [qbW hn]
  simp
 ·rename_i n' first cap zs' hf ha
  simp only [Option.some.injEq,Prod.mk.injEq] at hc
  obtain⟨rfl,rfl⟩:=hc
  have hv:=qaH hr.slot hf
  obtain⟨l1,l2⟩:=qbo (M:=M) (a:=a) ha fun y _ z hz=>qaH hr.slot hz
  generalize hq:a.eval f=q at hv
  cases hv with
  | clo fn first cap vf vc lf lc rf rc=>
    refine⟨vf++args.map a.eval++vc,?_,by simp only [List.length_append,lf,lc,l1],qbG (by simp only [List.length_append,lf,l1]) (qbG lf rf l2) rc⟩
    simp only [execOp,ho,resolve,hq,Deferred.ofValue,Sem.run_bind,Sem.run_pure,Result.andThen_ok,invoke]
    rw [qbW hn]
    simp
 ·cases hc
theorem iops_call {all:Array Oper} {o:Oper} {r:List Oper} {S:qaa} {Q:Exit→qaa→Prop} {f:Operand} {args:List Operand} {ts:Array TypeId} {n:FuncId} {zs:List IV}
  (ho:o.op= .call {callee:= .value f,args:=⟨args⟩,argTypes:=ts}) (hw:qai all S.s o=some true) (hc:qas (ev S.s) f args=some (n,zs)) (hn:fnOk P n=true) (hd:qaE S o.dst=true)
  (h:qa5 P n zs ⟨S.nx,S.l++h0.m⟩ fun e nx' l'=>match e with
   | .ret x=>IOps P h0 all r (S.put o.dst x nx' l') Q
   | .pan ch=>Q (.panic ch) {S with nx:=nx',l:=l'++S.l}):IOps P h0 all (o::r) S Q:=by
 intro M0 hM0 M a hs hr ro hro
 refine wpListW_step (hro.mem (List.mem_cons_self ..)) fun K hK=>?_
 rw [if_pos (qa4 hr hw)]
 obtain⟨vs,hrun,hl,hv⟩:=run_icall (P:=P) hr ho hc hn
 unfold Oper.wp
 rw [hrun]
 refine Calls.mono (h M vs hr.heap hl hv) fun e w' ⟨M',nx',l',re,e1,st,hh,he,hq⟩=>?_
 cases re with
 | ret x=>
   obtain⟨v,rfl,hv⟩:=he
   subst e1
   exact hK _ _ (hq M0 hM0 M' _ (hs.trans st) (hr.step st hd hv (by rw [List.append_assoc];exact hh)) ro hro.tl)
 | pan ch=>
   simp only [qbF] at he
   subst he
   refine⟨M', {S with nx:=nx',l:=l'++S.l},e1,hs.trans st,⟨by simp only [List.append_assoc];exact hh,hr.size,fun i x hi=>(by obtain⟨u,h1,h2⟩:=hr.slot i x hi;exact⟨u,h1,h2.step st⟩),hr.defs.step st⟩,hq⟩
theorem iops_panic {all:Array Oper} {o:Oper} {r:List Oper} {S:qaa} {Q:Exit→qaa→Prop} {x:Operand} {t:TypeId} {v:Value} (ho:o.op= .panic x) (hw:qai all S.s o=some true)
  (hx:ev S.s x=some (.p (.sc (.iface t v)))) (h:Q (.panic [{v:= .iface t v,recovered:=false}]) S):IOps P h0 all (o::r) S Q:=by
 intro M0 hM0 M a hs hr ro hro
 refine wpListW_step (hro.mem (List.mem_cons_self ..)) fun K hK=>?_
 rw [if_pos (qa4 hr hw)]
 have e:=(qaH hr.slot hx).sc_inv
 unfold Oper.wp
 have hrun:(execOp a.eval o).run P M.w= .halt (.panic (.iface t v)) M.w:=by
  simp only [execOp,ho,e,Instr.panic]
  simp
 rw [hrun]
 exact⟨M,S,rfl,hs,hr,h⟩
/-! ### code -/
inductive It where
 | code (c:Code)
 | blk (id:Nat)
 | ops (all:Array Oper) (l:List Oper)
def after (P:Program) (h0:IH) (Q:Exit→qaa→Prop):List It→Exit→qaa→Prop
 | [],e,S=>Q e S
 | .blk id::k,e,S=>match e with
   | .exit i=>if i=id then after P h0 Q k .normal S else after P h0 Q k (.exit i) S
   | e=>after P h0 Q k e S
 | .code c::k,e,S=>match e with
   | .normal=>qbd P h0 c S fun e' S'=>after P h0 Q k e' S'
   | e=>after P h0 Q k e S
 | .ops all l::k,e,S=>match e with
   | .normal=>IOps P h0 all l S fun e' S'=>after P h0 Q k e' S'
   | e=>after P h0 Q k e S
def IRun (P:Program) (h0:IH) (k:List It) (S:qaa) (Q:Exit→qaa→Prop):Prop:=after P h0 Q k .normal S
section
variable {k:List It} {S:qaa} {Q:Exit→qaa→Prop}
theorem qbd.mono {c:Code} {Q':Exit→qaa→Prop} (h:qbd P h0 c S Q) (hq: ∀e S,Q e S→Q' e S):qbd P h0 c S Q':=
 fun M0 hM0 M a hs hr ro hro=>wpIn_mono (h M0 hM0 M a hs hr ro hro) fun _ _ _ ⟨M',S',h1,h2,h3,h4⟩=>⟨M',S',h1,h2,h3,hq _ _ h4⟩
theorem qgZ {id:Nat} (h:IRun P h0 k S Q):IRun P h0 (.blk id::k) S Q:=h
theorem qjs (h:IRun P h0 k S Q):IRun P h0 (.code .skip::k) S Q:=
 fun _ _ M _ hs hr _ _=>wpIn_skip ⟨M,S,rfl,hs,hr,h⟩
theorem qhW {l:Nat} (h:IRun P h0 k S Q):IRun P h0 (.code (.label l)::k) S Q:=
 fun _ _ M _ hs hr _ _=>wpIn_label ⟨M,S,rfl,hs,hr,h⟩
theorem qll {x y:Code} (h:IRun P h0 (.code x:: .code y::k) S Q):IRun P h0 (.code (.seq x y)::k) S Q:=by
 intro M0 hM0 M a hs hr ro hro
 refine wpIn_seq (wpIn_mono (h M0 hM0 M a hs hr ro hro.l) ?_)
 rintro e a' w' ⟨M',S',rfl,h2,h3,h4⟩
 cases e with
 | normal=>exact h4 M0 hM0 M' a' h2 h3 ro hro.r
 | exit i=>exact⟨M',S',rfl,h2,h3,h4⟩
 | goto i=>exact⟨M',S',rfl,h2,h3,h4⟩
 | ret=>exact⟨M',S',rfl,h2,h3,h4⟩
 | panic c=>exact⟨M',S',rfl,h2,h3,h4⟩
 | outgrown=>exact⟨M',S',rfl,h2,h3,h4⟩
theorem qhV {id:Nat} {c:Code} (h:IRun P h0 (.code c:: .blk id::k) S Q):IRun P h0 (.code (.block id c)::k) S Q:=by
 intro M0 hM0 M a hs hr ro hro
 refine wpIn_block (wpIn_mono (h M0 hM0 M a hs hr ro hro) ?_)
 rintro e a' w' ⟨M',S',rfl,h2,h3,h4⟩
 cases e with
 | exit i=>
   simp only [Exit.inBlock]
   simp only [after] at h4
   split
   ·rename_i hi
    rw [if_pos hi] at h4
    exact⟨M',S',rfl,h2,h3,h4⟩
   ·rename_i hi
    rw [if_neg hi] at h4
    exact⟨M',S',rfl,h2,h3,h4⟩
 | normal=>exact⟨M',S',rfl,h2,h3,h4⟩
 | goto i=>exact⟨M',S',rfl,h2,h3,h4⟩
 | ret=>exact⟨M',S',rfl,h2,h3,h4⟩
 | panic c=>exact⟨M',S',rfl,h2,h3,h4⟩
 | outgrown=>exact⟨M',S',rfl,h2,h3,h4⟩
theorem qfK {id:Nat} (h:after P h0 Q k (.exit id) S):IRun P h0 (.code (.exit id)::k) S Q:=
 fun _ _ M _ hs hr _ _=>wpIn_exit ⟨M,S,rfl,hs,hr,h⟩
theorem irun_ret (h:after P h0 Q k .ret S):IRun P h0 (.code .ret::k) S Q:=
 fun _ _ M _ hs hr _ _=>wpIn_ret ⟨M,S,rfl,hs,hr,h⟩
theorem irun_cond {c:Operand} {x y:Code} {t:Bool} (hc:ev S.s c=some (.p (.sc (.bool t)))) (h1:t=true→IRun P h0 (.code x::k) S Q) (h2:t=false→IRun P h0 (.code y::k) S Q):
  IRun P h0 (.code (.cond c x y)::k) S Q:=
 fun M0 hM0 M a hs hr ro hro=>wpIn_cond_split ((qaH hr.slot hc).sc_inv) (fun e=>h1 e M0 hM0 M a hs hr ro hro.l) (fun e=>h2 e M0 hM0 M a hs hr ro hro.r)
theorem qgF {id:Nat} {ops:Array Oper} (h:IRun P h0 (.ops ops ops.toList::k) S Q):IRun P h0 (.code (.region id ops false)::k) S Q:=
 fun M0 hM0 M a hs hr ro hro=>wpIn_region_list (h M0 hM0 M a hs hr ro hro)
theorem qfL {all:Array Oper} (h:IRun P h0 k S Q):IRun P h0 (.ops all []::k) S Q:=qqH h
theorem after_ret: ∀ {k:List It},Q .ret S→after P h0 Q k .ret S
 | [],h=>h
 | .blk _::k,h=>after_ret (k:=k) h
 | .code _::k,h=>after_ret (k:=k) h
 | .ops _ _::k,h=>after_ret (k:=k) h
theorem after_panic {ch:List PanicEntry}: ∀ {k:List It},Q (.panic ch) S→after P h0 Q k (.panic ch) S
 | [],h=>h
 | .blk _::k,h=>after_panic (k:=k) h
 | .code _::k,h=>after_panic (k:=k) h
 | .ops _ _::k,h=>after_panic (k:=k) h
end
end Go.Idl
/-
 Knowing less; loops; the frame of a function.
-/
namespace Go.Idl
variable {P:Program} {h0:IH}
mutual
def bel (n:Nat):IV→Prop
 | .p _=>True
 | .ref b _ _ _=>b < n
 | .ptr b _ _ _=>b < n
 | .mp b=>b < n
 | .clo _ f c=>bels n f∧bels n c
 | .agg cs=>bels n cs
 | .tup cs=>bels n cs
 | .dead=>True
def bels (n:Nat):List IV→Prop
 | []=>True
 | x::r=>bel n x∧bels n r
end
theorem qaR {n:Nat}: ∀ {l:List IV} {i:Nat} {x:IV},bels n l→l[i]? =some x→bel n x
 | [],i,x,_,h=>by simp at h
 | y::l,0,x,hb,h=>by simp at h;subst h;exact hb.1
 | y::l,i+1,x,hb,h=>qaR hb.2 (by simpa using h)
theorem bels_of {n:Nat}: ∀ {l:List IV},(∀(i:Nat) (x:IV),l[i]? =some x→bel n x)→bels n l
 | [],_=>trivial
 | y::l,h=>⟨h 0 y rfl,bels_of fun i x hx=>h (i+1) x (by simpa using hx)⟩
theorem qeQ {n:Nat} {l:List IV}:bels n l↔ ∀x∈l,bel n x:=by
 induction l with
 | nil=>simp [bels]
 | cons y l ih=>simp [bels,ih]
def qbk (n:Nat):IBlk→Prop
 | .arr _ _ rows=> ∀row∈rows,bels n row
 | .mp es=> ∀e∈es,bel n e.2
 | .ob _ vs=>bels n vs
theorem VRel.toBel {M:Mem} {n:Nat} (hA: ∀b,M.H.A b→b < n) {x:IV} {v:Value} (h:VRel M x v):bel n x:=by
 induction h with
 | p x v h=>trivial
 | ref b g off len v hA' hv h=>exact hA b hA'
 | ptr b g r j v hA' hv h=>exact hA b hA'
 | mp b v hA' hv h=>exact hA b hA'
 | clo fn first cap vf vc hf hc rf rc i1 i2=>
   refine⟨bels_of fun i x hx=>?_,bels_of fun i x hx=>?_⟩
   ·have hlt:=qab hx
    rw [←hf] at hlt
    exact i1 i x _ hx (List.getElem?_eq_getElem hlt)
   ·have hlt:=qab hx
    rw [←hc] at hlt
    exact i2 i x _ hx (List.getElem?_eq_getElem hlt)
 | agg cs vs hl h1 r ih=>
   refine bels_of fun i x hx=>?_
   have hlt:=qab hx
   rw [←hl] at hlt
   exact ih i x _ hx (List.getElem?_eq_getElem hlt)
 | tup cs vs hl r ih=>
   refine bels_of fun i x hx=>?_
   have hlt:=qab hx
   rw [←hl] at hlt
   exact ih i x _ hx (List.getElem?_eq_getElem hlt)
 | dead v=>trivial
theorem BRel.toBel {M:Mem} {n:Nat} (hA: ∀b,M.H.A b→b < n) {b:Nat} {blk:IBlk} (h:BRel M b blk):qbk n blk:=by
 cases blk with
 | arr sz g rows=>
   intro row hrow
   obtain⟨i,hi,e⟩:=List.getElem_of_mem hrow
   refine bels_of fun j x hx=>?_
   cases hβ:M.β b with
   | none=>have:=h.2.1 hβ;subst this;cases hrow
   | some t=>
     obtain⟨c,o,k⟩:=t
     obtain⟨cs,ty,_,_,_,_,q5⟩:=h.2.2 c o k hβ
     obtain⟨v,_,_,hv⟩:=q5 i row j x (by rw [List.getElem?_eq_getElem hi,e]) hx
     exact hv.toBel hA
 | mp es=>
   intro p hp
   obtain⟨i,hi,e⟩:=List.getElem_of_mem hp
   obtain⟨c,o,k,_,es',clock,_,_,q3⟩:=h
   obtain⟨en,_,_,hv⟩:=q3 i p.1 p.2 (by rw [List.getElem?_eq_getElem hi,e])
   exact hv.toBel hA
 | ob k vs=>
   obtain⟨_,_,_,_,ob,us,_,_,q3,q4⟩:=h
   refine bels_of fun i x hx=>?_
   have hlt:=qab hx
   rw [←q3] at hlt
   exact(q4 i x _ hx (List.getElem?_eq_getElem hlt)).toBel hA
/-! ### knowing less, and freezing -/
inductive Fz (G:Nat→Option IBlk) (ids:List Nat):IV→IV→Prop where
 | refl (x:IV):Fz G ids x x
 | ref (b g off len sz:Nat) (rows:List (List IV)) (prows:List (List PV)) (hb:G b=some (.arr sz g rows)) (hi:b∈ids)
   (hp:(rows.drop off).take len=prows.map (·.map .p)):Fz G ids (.ref b g off len) (.p (.imm sz prows))
 | ptr (b g r j sz:Nat) (rows:List (List IV)) (row:List IV) (cells:List PV) (hb:G b=some (.arr sz g rows)) (hi:b∈ids) (hr:rows[r]? =some row)
   (hp:row.drop j=cells.map .p):Fz G ids (.ptr b g r j) (.p (.rp cells))
 | agg (xs ys:List IV) (hl:ys.length=xs.length) (h: ∀(i:Nat) (x y:IV),xs[i]? =some x→ys[i]? =some y→Fz G ids x y):Fz G ids (.agg xs) (.agg ys)
 | tup (xs ys:List IV) (hl:ys.length=xs.length) (h: ∀(i:Nat) (x y:IV),xs[i]? =some x→ys[i]? =some y→Fz G ids x y):Fz G ids (.tup xs) (.tup ys)
 | clo (fn:Fn) (fs gs cs ds:List IV) (h1:gs.length=fs.length) (h2:ds.length=cs.length) (hf: ∀(i:Nat) (x y:IV),fs[i]? =some x→gs[i]? =some y→Fz G ids x y)
   (hc: ∀(i:Nat) (x y:IV),cs[i]? =some x→ds[i]? =some y→Fz G ids x y):Fz G ids (.clo fn fs cs) (.clo fn gs ds)
 | dead (x:IV):Fz G ids x .dead
 | nil (a:PV) (sz:Nat) (h:a= .emp∨a= .sc (.slice none 0 0)):Fz G ids (.p a) (.p (.imm sz []))
theorem Fz.bel {G:Nat→Option IBlk} {ids:List Nat} {n:Nat} {x y:IV} (f:Fz G ids x y):bel n x→bel n y:=by
 induction f with
 | refl x=>exact id
 | ref=>exact fun _=>trivial
 | ptr=>exact fun _=>trivial
 | agg xs ys hl h ih=>
   intro hb
   refine bels_of fun i y hy=>?_
   have hlt:=qab hy
   exact ih i _ y (List.getElem?_eq_getElem (show i < xs.length by omega)) hy (qaR hb (List.getElem?_eq_getElem _))
 | tup xs ys hl h ih=>
   intro hb
   refine bels_of fun i y hy=>?_
   have hlt:=qab hy
   exact ih i _ y (List.getElem?_eq_getElem (show i < xs.length by omega)) hy (qaR hb (List.getElem?_eq_getElem _))
 | clo fn fs gs cs ds h1 h2 hf hc i1 i2=>
   rintro⟨b1,b2⟩
   refine⟨bels_of fun i y hy=>?_,bels_of fun i y hy=>?_⟩
   ·have hlt:=qab hy
    exact i1 i _ y (List.getElem?_eq_getElem (show i < fs.length by omega)) hy (qaR b1 (List.getElem?_eq_getElem _))
   ·have hlt:=qab hy
    exact i2 i _ y (List.getElem?_eq_getElem (show i < cs.length by omega)) hy (qaR b2 (List.getElem?_eq_getElem _))
 | dead x=>exact fun _=>trivial
 | nil=>exact fun _=>trivial
def FzB (G:Nat→Option IBlk) (ids:List Nat):IBlk→IBlk→Prop
 | .arr sz g rows, .arr sz' g' rows'=>sz'=sz∧g'=g∧rows'.length=rows.length∧ ∀(i:Nat) (row row':List IV),rows[i]? =some row→rows'[i]? =some row'→
   row'.length=row.length∧ ∀(j:Nat) (x y:IV),row[j]? =some x→row'[j]? =some y→Fz G ids x y
 | .mp es, .mp es'=>es'.length=es.length∧ ∀(i:Nat) (k k':Value) (x y:IV),es[i]? =some (k,x)→es'[i]? =some (k',y)→k'=k∧Fz G ids x y
 | .ob k vs, .ob k' vs'=>k'=k∧vs'=vs
 | _,_=>False
theorem FzB.refl {G:Nat→Option IBlk} {ids:List Nat} (blk:IBlk):FzB G ids blk blk:=by
 cases blk with
 | arr sz g rows=>exact⟨rfl,rfl,rfl,fun i row row' h h'=>by rw [h] at h';cases h';exact⟨rfl,fun j x y hx hy=>by rw [hx] at hy;cases hy;exact .refl x⟩⟩
 | mp es=>exact⟨rfl,fun i k k' x y h h'=>by rw [h] at h';cases h';exact⟨rfl, .refl x⟩⟩
 | ob k vs=>exact⟨rfl,rfl⟩
theorem FzB.bel {G:Nat→Option IBlk} {ids:List Nat} {n:Nat} {x y:IBlk} (f:FzB G ids x y) (hb:qbk n x):qbk n y:=by
 cases x with
 | arr sz g rows=>
   cases y with
   | mp es=>exact f.elim
   | ob k vs=>exact f.elim
   | arr sz' g' rows'=>
     obtain⟨_,_,e3,e4⟩:=f
     intro row' hrow
     obtain⟨i,hi,e⟩:=List.getElem_of_mem hrow
     have hx:=List.getElem?_eq_getElem (show i < rows.length by omega)
     obtain⟨l1,l2⟩:=e4 i _ row' hx (by rw [List.getElem?_eq_getElem hi,e])
     refine bels_of fun j y hy=>?_
     have hlt:=qab hy
     have hj:=List.getElem?_eq_getElem (show j < rows[i].length by omega)
     exact(l2 j _ y hj hy).bel (qaR (hb _ (List.getElem_mem _)) hj)
 | mp es=>
   cases y with
   | arr sz' g' rows'=>exact f.elim
   | ob k vs=>exact f.elim
   | mp es'=>
     obtain⟨e1,e2⟩:=f
     intro p hp
     obtain⟨i,hi,e⟩:=List.getElem_of_mem hp
     have hx:=List.getElem?_eq_getElem (show i < es.length by omega)
     obtain⟨_,f⟩:=e2 i _ p.1 _ p.2 hx (by rw [List.getElem?_eq_getElem hi,e])
     exact f.bel (hb _ (List.getElem_mem _))
 | ob k vs=>
   cases y with
   | arr sz' g' rows'=>exact f.elim
   | mp es'=>exact f.elim
   | ob k' vs'=>obtain⟨rfl,rfl⟩:=f;exact hb
theorem FzB.shape {G:Nat→Option IBlk} {ids:List Nat} {blk blk':IBlk} (h:FzB G ids blk blk'):blk'.sz=blk.sz∧blk'.gen=blk.gen∧blk'.len=blk.len∧blk'.isMp=blk.isMp:=by
 cases blk<;>cases blk'<;>simp_all [FzB,IBlk.sz,IBlk.gen,IBlk.len,IBlk.isMp]
structure Less (M M':Mem) (n:Nat) (ids:List Nat):Prop where
 w:M'.w=M.w
 β:M'.β=M.β
 A: ∀b,b < n→M.H.A b→M'.H.A b
 G: ∀b blk',M'.H.G b=some blk'→ ∃blk,M.H.G b=some blk∧FzB M.H.G ids blk blk'
 ids: ∀b∈ids,M'.H.G b=none
 O:M'.H.O=M.H.O
theorem Less.own {M M':Mem} {n:Nat} {ids:List Nat} (h:Less M M' n ids) {c:Nat} (ho:M'.own c):M.own c:=by
 rcases ho with ho | ⟨b,blk,o,k,h1,h2⟩
 ·exact .inl (by rw [←h.O];exact ho)
 obtain⟨blk0,g1,_⟩:=h.G b blk h1
 exact .inr ⟨b,blk0,o,k,g1,by rw [←h.β];exact h2⟩
theorem VRel.less {M M':Mem} {n:Nat} {ids:List Nat} (l:Less M M' n ids) {x:IV} {v:Value} (h:VRel M x v) (hb:bel n x):VRel M' x v:=by
 induction h with
 | p x v h=>exact .p x v (h.step (by rw [l.w];exact Nat.le_refl _) fun c _ ho=>⟨by rw [l.w],fun ho'=>ho (l.own ho')⟩)
 | ref b g off len v hA' hv h=>
   refine .ref b g off len v (l.A b hb hA') hv fun blk hblk=>?_
   obtain⟨blk0,g1,g2⟩:=l.G b blk hblk
   obtain⟨s1,s2,s3,_⟩:=g2.shape
   rw [s1,s2,s3,l.β]
   exact h blk0 g1
 | ptr b g r j v hA' hv h=>
   refine .ptr b g r j v (l.A b hb hA') hv fun blk hblk=>?_
   obtain⟨blk0,g1,g2⟩:=l.G b blk hblk
   obtain⟨s1,s2,s3,_⟩:=g2.shape
   rw [s1,s2,l.β]
   exact h blk0 g1
 | mp b v hA' hv h=>
   refine .mp b v (l.A b hb hA') hv fun blk hblk=>?_
   obtain⟨blk0,g1,g2⟩:=l.G b blk hblk
   obtain⟨s1,s2,s3,s4⟩:=g2.shape
   rw [s4,l.β]
   exact h blk0 g1
 | clo fn first cap vf vc hf hc rf rc i1 i2=>
   exact .clo fn first cap vf vc hf hc (fun i x v hx hv=>i1 i x v hx hv (qaR hb.1 hx)) (fun i x v hx hv=>i2 i x v hx hv (qaR hb.2 hx))
 | agg cs vs hl h1 r ih=>exact .agg cs vs hl h1 fun i x v hx hv=>ih i x v hx hv (qaR hb hx)
 | tup cs vs hl r ih=>exact .tup cs vs hl fun i x v hx hv=>ih i x v hx hv (qaR hb hx)
 | dead v=>exact .dead v
theorem VRel.fz {M M':Mem} {n:Nat} {ids:List Nat} (hM:MRel M) (l:Less M M' n ids) {x y:IV} (f:Fz M.H.G ids x y): ∀ {v:Value},VRel M x v→bel n y→VRel M' y v:=by
 induction f with
 | refl x=>exact fun h hb=>h.less l hb
 | ref b g off len sz rows prows hb hi hp=>
   intro v h _
   have h4:=h.ref_inv hb rfl
   obtain⟨a,cap,rfl,h1,h2,h3,h4⟩:=h4
   simp only [IBlk.len,IBlk.sz] at h2 h3 h4
   have hlen:prows.length=len:=by
    have:=congrArg List.length hp
    simp only [List.length_take,List.length_drop,List.length_map] at this;omega
   have hbr:=hM.blk b _ hb
   subst hlen
   rcases h4 with h4 | ⟨c,o,k,hβ,ha,h5⟩
   ·have e:prows= []:=List.eq_nil_of_length_eq_zero (by omega)
    subst e
    subst h4
    exact .p _ _ (.imm sz [] a 0 0 0 (fun _ _=>undef) (Nat.le_refl _) (Nat.zero_le _) (fun h=>absurd h (by simp)) (by simp) (by simp) (by simp))
   ·subst ha
    obtain⟨cs,ty,q1,q2,q3,q4,q5⟩:=hbr.2.2 c o k hβ
    have hno: ¬M'.own c:=by
     rintro(g1 | ⟨b',blk',o',k',g1,g2⟩)
     ·exact hM.odis b _ c o k hb hβ (by rw [←l.O];exact g1)
     obtain⟨blk,g3,_⟩:=l.G b' blk' g1
     have:=hM.inj b' b blk _ c o' k' o k g3 hb (by rw [←l.β];exact g2) hβ
     subst this
     rw [l.ids b' hi] at g1;cases g1
    have hrow: ∀(i:Nat) (prow:List PV),prows[i]? =some prow→rows[off+i]? =some (prow.map .p):=by
     intro i prow hi'
     have:(prows.map (·.map IV.p))[i]? =some (prow.map .p):=by rw [List.getElem?_map,hi'];rfl
     rw [←hp,List.getElem?_take] at this
     split at this
     ·rwa [List.getElem?_drop] at this
     ·cases this
    refine .p _ _ (.mk_imm (c:=c) (o:=o+off * sz) h1 (by unfold maxLen at *;omega) (fun _=>⟨rfl,by rw [l.w];exact(Array.getElem?_eq_some_iff.1 q1).1,hno⟩) (fun i row hi'=>?_) fun i row j x hi' hj=>?_)
    ·have:=hbr.1 _ (List.mem_of_getElem? (hrow i row hi'))
     simpa using this
    ·obtain⟨u,u1,u2,u3⟩:=q5 _ _ j (.p x) (hrow i row hi') (by rw [List.getElem?_map,hj];rfl)
     refine⟨u,?_,u2,?_⟩
     ·rw [l.w,cell_of_row M.w c _ cs ty (0,0) q1,←u1]
      congr 1
      rw [Nat.add_mul];omega
     ·cases u3 with
      | p x v h=>exact h.step (by rw [l.w];exact Nat.le_refl _) fun c _ ho=>⟨by rw [l.w],fun ho'=>ho (l.own ho')⟩
 | ptr b g r j sz rows row cells hb hi hrow hp=>
   intro v hv _
   cases hv with
   | ptr _ _ _ _ _ hA hv hg=>
     obtain⟨c,o,n,hβ,rfl⟩:=(hg _ hb).2 rfl
     have hbr:=hM.blk b _ hb
     obtain⟨cs,ty,q1,q2,q3,q4,q5⟩:=hbr.2.2 c o n hβ
     have hno: ¬M'.own c:=by
      rintro(g1 | ⟨b',blk',o',k',g1,g2⟩)
      ·exact hM.odis b _ c o n hb hβ (by rw [←l.O];exact g1)
      obtain⟨blk,g3,_⟩:=l.G b' blk' g1
      have:=hM.inj b' b blk _ c o' k' o n g3 hb (by rw [←l.β];exact g2) hβ
      subst this
      rw [l.ids b' hi] at g1;cases g1
     refine .p _ _ (.mk_rp (c:=c) (o:=o+(r * sz+j)) ⟨by rw [l.w];exact(Array.getElem?_eq_some_iff.1 q1).1,hno⟩ fun k x hk=>?_)
     have hx:row[j+k]? =some (.p x):=by
      have:(cells.map IV.p)[k]? =some (.p x):=by rw [List.getElem?_map,hk];rfl
      rw [←hp,List.getElem?_drop] at this
      exact this
     obtain⟨u,u1,u2,u3⟩:=q5 r row (j+k) (.p x) hrow hx
     refine⟨u,?_,u2,?_⟩
     ·rw [l.w,cell_of_row M.w c _ cs ty (0,0) q1,←u1]
      congr 1
      omega
     ·cases u3 with
      | p x v h=>exact h.step (by rw [l.w];exact Nat.le_refl _) fun c _ ho=>⟨by rw [l.w],fun ho'=>ho (l.own ho')⟩
 | agg xs ys hl h ih=>
   intro v hv hb
   obtain⟨vs,rfl,l1,l2,l3⟩:=hv.agg_inv
   refine .agg ys vs (by omega) l2 fun i y u hy hu=>?_
   have hlt:=qab hy
   have hx:=List.getElem?_eq_getElem (show i < xs.length by omega)
   exact ih i _ y hx hy (l3 i _ u hx hu) (qaR hb hy)
 | tup xs ys hl h ih=>
   intro v hv hb
   obtain⟨vs,rfl,l1,l3⟩:=hv.tup_inv
   refine .tup ys vs (by omega) fun i y u hy hu=>?_
   have hlt:=qab hy
   have hx:=List.getElem?_eq_getElem (show i < xs.length by omega)
   exact ih i _ y hx hy (l3 i _ u hx hu) (qaR hb hy)
 | clo fn fs gs cs ds h1 h2 hf hc i1 i2=>
   intro v hv hb
   obtain⟨b1,b2⟩:=hb
   cases hv with
   | clo _ _ _ vf vc l1 l2 rf rc=>
     refine .clo fn gs ds vf vc (by omega) (by omega) (fun i y u hy hu=>?_) (fun i y u hy hu=>?_)
     ·have hlt:=qab hy
      have hx:=List.getElem?_eq_getElem (show i < fs.length by omega)
      exact i1 i _ y hx hy (rf i _ u hx hu) (qaR b1 hy)
     ·have hlt:=qab hy
      have hx:=List.getElem?_eq_getElem (show i < cs.length by omega)
      exact i2 i _ y hx hy (rc i _ u hx hu) (qaR b2 hy)
 | dead x=>exact fun _ _=> .dead _
 | nil a sz h=>
   intro v hv _
   have: ∃c,v= .slice c 0 0:=by
    cases hv with
    | p _ _ hv=>
      rcases h with rfl | rfl
      ·cases hv with
       | emp c=>exact⟨c,rfl⟩
      ·cases hv;exact⟨none,rfl⟩
   obtain⟨c,rfl⟩:=this
   exact .p _ _ (.imm sz [] c 0 0 0 (fun _ _=>undef) (Nat.le_refl _) (Nat.zero_le _) (fun h=>absurd h (by simp)) (by simp) (by simp) (by simp))
def Mem.cut (M:Mem) (nx:Nat) (m:List (Nat × IBlk)):Mem:=⟨M.w,⟨(· < nx),look m,M.H.O⟩,M.β⟩
structure qj6 (M:Mem) (h0:IH) (nx:Nat) (m:List (Nat × IBlk)) (ids:List Nat):Prop where
 low:h0.nx≤nx
 sub: ∀b blk',look m b=some blk'→ ∃blk,M.H.G b=some blk∧FzB M.H.G ids blk blk'∧b < nx∧qbk nx blk'
 ids: ∀b∈ids,look m b=none
theorem qj6.less {M:Mem} {nx:Nat} {m:List (Nat × IBlk)} {ids:List Nat} (h:qj6 M h0 nx m ids):Less M (M.cut nx m) nx ids:=
 ⟨rfl,rfl,fun _ hb _=>hb,fun b blk' hb=>(by obtain⟨blk,g1,g2,_⟩:=h.sub b blk' hb;exact⟨blk,g1,g2⟩),h.ids,rfl⟩
theorem qrt {M0 M:Mem} (h0r:HRel h0.nx h0.m M0) (hs:qae M0 M) (hM:MRel M) {nx:Nat} {m:List (Nat × IBlk)} {ids:List Nat} (h:qj6 M h0 nx m ids):
  qae M0 (M.cut nx m)∧HRel nx m (M.cut nx m):=by
 have l:=h.less
 refine⟨⟨hs.os,hs.tape,hs.output,hs.size,fun c hc ho=>?_,fun b hb=>?_,fun b blk' hA hb=>?_,hs.oeq,hs.ofix⟩,⟨⟨?_,?_,?_,hM.olt,fun b blk c o k h1 h2=>?_⟩,fun _ hb=>hb,fun b=>rfl⟩⟩
 ·obtain⟨e,o1⟩:=hs.keep c hc ho
  exact⟨e,fun ho'=>o1 (l.own ho')⟩
 ·exact Nat.lt_of_lt_of_le (h0r.A b hb) h.low
 ·obtain⟨blk,g1,g2,_⟩:=h.sub b blk' hb
  obtain⟨s1,s2,s3,s4⟩:=g2.shape
  obtain⟨blk0,k1,k2,k3,k4,k5⟩:=hs.comp b blk hA g1
  refine⟨blk0,k1,s1.trans k2,s4.trans k3,by rw [s2];exact k4,fun e=>?_⟩
  rw [s2] at e
  exact⟨(k5 e).1,s3.trans (k5 e).2⟩
 ·exact fun b blk hb=>(by obtain⟨_,_,_,g,_⟩:=h.sub b blk hb;exact g)
 ·intro b blk' hb
  obtain⟨blk,g1,g2,g3,g4⟩:=h.sub b blk' hb
  have hr:=hM.blk b blk g1
  cases blk with
  | arr sz g rows=>
    cases blk' with
    | mp es=>exact g2.elim
    | ob k vs=>exact g2.elim
    | arr sz' g' rows'=>
      obtain⟨rfl,rfl,e3,e4⟩:=g2
      obtain⟨r1,r2,r3⟩:=hr
      have rowOf: ∀(i:Nat) (row':List IV),rows'[i]? =some row'→ ∃row,rows[i]? =some row∧row'.length=row.length∧ ∀(j:Nat) (x y:IV),row[j]? =some x→row'[j]? =some y→Fz M.H.G ids x y:=by
       intro i row' hi
       have hlt:=qab hi
       have hx:=List.getElem?_eq_getElem (show i < rows.length by omega)
       exact⟨_,hx,e4 i _ row' hx hi⟩
      refine⟨fun row' hrow=>?_,fun hn=>?_,fun c o k hc=>?_⟩
      ·obtain⟨i,hi,e⟩:=List.getElem_of_mem hrow
       obtain⟨row,h1,h2,_⟩:=rowOf i row' (by rw [List.getElem?_eq_getElem hi,e])
       rw [h2];exact r1 row (List.mem_of_getElem? h1)
      ·have:=r2 hn;subst this
       exact List.eq_nil_of_length_eq_zero (by simpa using e3)
      ·obtain⟨cs,ty,q1,q2,q3,q4,q5⟩:=r3 c o k hc
       refine⟨cs,ty,q1,by omega,q3,q4,fun i row' j y hi hj=>?_⟩
       obtain⟨row,h1,h2,h3⟩:=rowOf i row' hi
       have hlt:=qab hj
       have hx:=List.getElem?_eq_getElem (show j < row.length by omega)
       obtain⟨v,v1,v2,v3⟩:=q5 i row j _ h1 hx
       exact⟨v,v1,v2,v3.fz hM l (h3 j _ y hx hj) (qaR (g4 row' (List.mem_of_getElem? hi)) hj)⟩
  | mp es=>
    cases blk' with
    | arr sz' g' rows'=>exact g2.elim
    | ob k vs=>exact g2.elim
    | mp es2=>
      obtain⟨e1,e2⟩:=g2
      obtain⟨c,o,k,hc,es',clock,q1,q2,q3⟩:=hr
      refine⟨c,o,k,hc,es',clock,q1,⟨by omega,by omega⟩,fun i key y hi=>?_⟩
      have hlt:=qab hi
      have hx:=List.getElem?_eq_getElem (show i < es.length by omega)
      obtain⟨rfl,f⟩:=e2 i _ key _ y hx hi
      obtain⟨en,n1,n2,n3⟩:=q3 i _ _ hx
      exact⟨en,n1,n2,n3.fz hM l f (g4 (_,y) (List.mem_of_getElem? hi))⟩
  | ob k vs=>
    cases blk' with
    | arr sz' g' rows'=>exact g2.elim
    | mp es2=>exact g2.elim
    | ob k' vs'=>
      obtain⟨rfl,rfl⟩:=g2
      obtain⟨c,o,n,hc,ob,us,q1,q2,q3,q4⟩:=hr
      exact⟨c,o,n,hc,ob,us,q1,q2,q3,fun i x v hi hv=>(q4 i x v hi hv).fz hM l (.refl x) (qaR g4 hi)⟩
 ·intro b b' blk blk' c o k o' k' h1 h2
  obtain⟨x1,g1,_⟩:=h.sub b blk h1
  obtain⟨x2,g2,_⟩:=h.sub b' blk' h2
  exact hM.inj b b' x1 x2 c o k o' k' g1 g2
 ·obtain⟨blk0,g1,_⟩:=h.sub b blk h1
  exact hM.odis b blk0 c o k g1 h2
structure Sub (h0:IH) (ids:List Nat) (S S':qaa):Prop where
 n:S'.n=S.n
 d:S'.d=S.d
 dbel:S.d= []∨S'.nx=S.nx
 low:h0.nx≤S'.nx
 top:S'.nx≤S.nx
 slots: ∀p∈S'.s,∃x,look S.s p.1=some x∧Fz (look (S.l++h0.m)) ids x p.2∧(S'.nx=S.nx∨bel S'.nx p.2)
 blks: ∀p∈S'.l,∃blk,look (S.l++h0.m) p.1=some blk∧FzB (look (S.l++h0.m)) ids blk p.2∧(S'.nx=S.nx∨p.1 < S'.nx∧qbk S'.nx p.2)
 others: ∀p∈S.l,h0.nx≤p.1∨ ∃blk,(p.1,blk)∈S'.l
 gone: ∀b∈ids,h0.nx≤b∧ ∀p∈S'.l,p.1≠b
theorem look_of_keys {m l:List (Nat × IBlk)} {b:Nat} {blk:IBlk} (h:look (l++m) b=some blk):(∃x,look l b=some x∧x=blk)∨(look l b=none∧look m b=some blk):=by
 rw [qad] at h
 cases hl:look l b with
 | some x=>rw [hl] at h;cases h;exact .inl ⟨_,rfl,rfl⟩
 | none=>rw [hl] at h;exact .inr ⟨rfl,h⟩
theorem bel_mono {n n':Nat} (hle:n≤n') (x:IV):bel n x→bel n' x:=by
 apply IV.rec (motive_1:=fun x=>bel n x→bel n' x) (motive_2:=fun l=>bels n l→bels n' l)
 ·intro x _;trivial
 ·intro b g off len h;simp only [bel] at h ⊢;omega
 ·intro b g r j h;simp only [bel] at h ⊢;omega
 ·intro b h;simp only [bel] at h ⊢;omega
 ·intro fn f c i1 i2 h;exact⟨i1 h.1,i2 h.2⟩
 ·intro cs ih h;exact ih h
 ·intro cs ih h;exact ih h
 ·intro _;trivial
 ·intro _;trivial
 ·intro x l i1 i2 h;exact⟨i1 h.1,i2 h.2⟩
theorem qmY {n n':Nat} (hle:n≤n') {blk:IBlk} (h:qbk n blk):qbk n' blk:=by
 cases blk with
 | arr sz g rows=>intro row hrow;exact qeQ.2 fun x hx=>bel_mono hle x (qeQ.1 (h row hrow) x hx)
 | mp es=>intro e he;exact bel_mono hle _ (h e he)
 | ob k vs=>exact qeQ.2 fun x hx=>bel_mono hle x (qeQ.1 h x hx)
theorem qb9 {ids:List Nat} {S S':qaa} (h:Sub h0 ids S S') {M0 M:Mem} {a:Act} (h0r:HRel h0.nx h0.m M0) (hs:qae M0 M) (hr:SRel h0 S M a):
  ∃M',M'.w=M.w∧qae M0 M'∧SRel h0 S' M' a∧ ∀x y v,VRel M x v→Fz (look (S.l++h0.m)) ids x y→(S'.nx=S.nx∨bel S'.nx y)→VRel M' y v:=by
 have hA: ∀b,M.H.A b→b < S.nx:=fun b hb=>hr.heap.A b hb
 have hA0: ∀b,M0.H.A b→b < h0.nx:=fun b hb=>h0r.A b hb
 have hGe:look (S.l++h0.m)=M.H.G:=by funext b;rw [hr.heap.G]
 have h0none: ∀b,h0.nx≤b→look h0.m b=none:=by
  intro b hb
  cases hl:look h0.m b with
  | none=>rfl
  | some blk=>
    have hg0:M0.H.G b=some blk:=by rw [h0r.G];exact hl
    have:=hA0 b (h0r.rel.dom b blk hg0)
    omega
 have hcut:qj6 M h0 S'.nx (S'.l++h0.m) ids:=by
  refine⟨h.low,fun b blk hb=>?_,fun b hb=>?_⟩
  ·rcases look_of_keys hb with ⟨x,hx,rfl⟩ | ⟨hn,hm⟩
   ·obtain⟨blk0,g1,g2,g3⟩:=h.blks (b,x) (qaD hx)
    rw [hGe] at g1 g2
    refine⟨blk0,g1,g2,?_⟩
    rcases g3 with g3 | g3
    ·rw [g3]
     exact⟨hA b (hr.heap.rel.dom b _ g1),g2.bel ((hr.heap.rel.blk b _ g1).toBel hA)⟩
    ·exact g3
   ·have hg0:M0.H.G b=some blk:=by rw [h0r.G];exact hm
    have hlt:=hA0 b (h0r.rel.dom b blk hg0)
    have hl:look (S.l++h0.m) b=some blk:=by
     rw [qad]
     cases hl:look S.l b with
     | none=>exact hm
     | some y=>
       exfalso
       rcases h.others (b,y) (qaD hl) with h' | ⟨blk',h'⟩
       ·simp only at h';omega
       ·exact look_none hn _ h' rfl
    rw [hGe] at hl
    exact⟨blk,hl, .refl blk,Nat.lt_of_lt_of_le hlt h.low,qmY h.low ((h0r.rel.blk b blk hg0).toBel hA0)⟩
  ·obtain⟨g1,g2⟩:=h.gone b hb
   rw [qad]
   cases hl:look S'.l b with
   | some y=>exact absurd rfl (g2 _ (qaD hl))
   | none=>exact h0none b g1
 obtain⟨g1,g2⟩:=qrt h0r hs hr.heap.rel hcut
 have g3: ∀x y v,VRel M x v→Fz (look (S.l++h0.m)) ids x y→(S'.nx=S.nx∨bel S'.nx y)→VRel (M.cut S'.nx (S'.l++h0.m)) y v:=by
  intro x y v hv f hb
  rw [hGe] at f
  refine hv.fz hr.heap.rel hcut.less f ?_
  rcases hb with hb | hb
  ·rw [hb];exact f.bel (hv.toBel hA)
  ·exact hb
 refine⟨M.cut S'.nx (S'.l++h0.m),rfl,g1,⟨g2,by rw [h.n];exact hr.size,fun i y hi=>?_,?_⟩,g3⟩
 ·obtain⟨x,q1,q2,q3⟩:=h.slots (i,y) (qaD hi)
  obtain⟨v,v1,v2⟩:=hr.slot i x q1
  exact⟨v,v1,g3 x y v v2 q2 q3⟩
 ·rw [h.d]
  rcases h.dbel with hd | hd
  ·have:=hr.defs
   rw [hd] at this ⊢
   cases hdd:a.defers with
   | nil=>trivial
   | cons d ds=>rw [hdd] at this;exact this.elim
  ·have hdr:=hr.defs
   clear hcut g1 g2
   generalize a.defers=ds at hdr
   generalize S.d=xs at hdr
   induction xs generalizing ds with
   | nil=>cases ds<;>first | trivial | exact hdr.elim
   | cons x xs ih=>
     cases ds with
     | nil=>exact hdr.elim
     | cons d ds=>
       refine⟨?_,ih ds hdr.2⟩
       have hd1:=hdr.1
       unfold DRel at hd1 ⊢
       split at hd1
       ·obtain⟨b,D,e1,e2,e3⟩:=hd1
        exact⟨b,D,e1,e2,g3 _ _ _ e3 (.refl _) (.inl hd)⟩
       ·obtain⟨vc,va,e,l1,l2,r1,r2⟩:=hd1.ex
        exact⟨vc,va,e,l1,l2,fun i y v hi hv=>g3 y y v (r1 i y v hi hv) (.refl y) (.inl hd),fun i y v hi hv=>g3 y y v (r2 i y v hi hv) (.refl y) (.inl hd)⟩
theorem qbd.weak {c:Code} {ids:List Nat} {S S':qaa} {Q:Exit→qaa→Prop} (hs:Sub h0 ids S S') (h:qbd P h0 c S' Q):qbd P h0 c S Q:=by
 intro M0 hM0 M a hst hr
 obtain⟨M',hw,h1,h2,_⟩:=qb9 hs hM0 hst hr
 rw [←hw]
 exact h M0 hM0 M' a h1 h2
theorem IOps.weak {all:Array Oper} {l:List Oper} {ids:List Nat} {S S':qaa} {Q:Exit→qaa→Prop} (hs:Sub h0 ids S S') (h:IOps P h0 all l S' Q):IOps P h0 all l S Q:=by
 intro M0 hM0 M a hst hr
 obtain⟨M',hw,h1,h2,_⟩:=qb9 hs hM0 hst hr
 rw [←hw]
 exact h M0 hM0 M' a h1 h2
theorem qjr {ι:Type} {c:Code} {k:List It} {S:qaa} {Q:Exit→qaa→Prop} (St:ι→qaa) (μ:ι→Nat) (i0:ι) (hi: ∃ids,Sub h0 ids S (St i0))
  (hr: ∀i,IRun P h0 [.code c] (St i) fun e S'=>match e with
   | .normal=> ∃i' ids,μ i' < μ i∧Sub h0 ids S' (St i')
   | e=>after P h0 Q k e S'):IRun P h0 (.code (.loop c)::k) S Q:=by
 obtain⟨ids,hi⟩:=hi
 refine qbd.weak hi ?_
 intro M0 hM0 M a hs hrel ro hro
 refine wpIn_loop_ghost (fun n a w=> ∃i M,μ i=n∧M.w=w∧qae M0 M∧SRel h0 (St i) M a) (μ i0) ⟨i0,M,rfl,rfl,hs,hrel⟩ ?_
 rintro n a w ⟨i,M,rfl,rfl,hs,hrel⟩
 refine wpIn_mono (hr i M0 hM0 M a hs hrel ro hro) ?_
 rintro e a' w' ⟨M',S',rfl,h2,h3,h4⟩
 cases e with
 | normal=>
   obtain⟨i',ids,hlt,hsub⟩:=h4
   obtain⟨M'',hw,g1,g2,_⟩:=qb9 hsub hM0 h2 h3
   exact⟨μ i',hlt,i',M'',rfl,hw,g1,g2⟩
 | exit id=>exact⟨M',S',rfl,h2,h3,h4⟩
 | goto l=>exact⟨M',S',rfl,h2,h3,h4⟩
 | ret=>exact⟨M',S',rfl,h2,h3,h4⟩
 | panic ch=>exact⟨M',S',rfl,h2,h3,h4⟩
 | outgrown=>exact⟨M',S',rfl,h2,h3,h4⟩
theorem qfM {k:List It} {ids:List Nat} {S S':qaa} {Q:Exit→qaa→Prop} (hs:Sub h0 ids S S') (hk:match k with | []=>False | .blk _::_=>False | _=>True) (h:IRun P h0 k S' Q):IRun P h0 k S Q:=by
 cases k with
 | nil=>exact hk.elim
 | cons x k=>
   cases x with
   | code c=>exact qbd.weak hs h
   | blk id=>exact hk.elim
   | ops all l=>exact IOps.weak hs h
/-! ### functions -/
def qj9 (P:Program) (S:qaa) (m:List (Nat × IBlk)):ResultVar→Option IV
 | .tmp t=>look S.s t
 | .cell p t=>match look S.s p with
   | some (.ptr b g r j)=>match look m b with
     | some (.arr _ g' rows)=>if g=g' then match rows[r]? with
       | some row=>qea P t (row.drop j)
       | none=>none
       else none
     | _=>none
   | _=>none
def qgg (P:Program) (S:qaa) (m:List (Nat × IBlk)):List ResultVar→Option (List IV)
 | []=>some []
 | r::rs=>match qj9 P S m r,qgg P S m rs with
   | some x,some xs=>some (x::xs)
   | _,_=>none
def ires (P:Program) (S:qaa) (m:List (Nat × IBlk)) (rs:List ResultVar):Option IV:=
 match qgg P S m rs with
 | some [x]=>some x
 | some xs=>some (.tup xs)
 | none=>none
end Go.Idl
/-
 The frame of a function.
-/
namespace Go.Idl
variable {P:Program} {h0:IH}
def enum:Nat→List IV→List (Nat × IV)
 | _, []=> []
 | i,x::r=>(i,x)::enum (i+1) r
theorem qdq: ∀(l:List IV) (i k:Nat) (x:IV),look (enum i l) k=some x→i≤k∧l[k - i]? =some x
 | [],i,k,x,h=>by cases h
 | y::r,i,k,x,h=>by
   simp only [enum,look] at h
   split at h
   ·rename_i e;subst e;cases h;simp
   ·obtain⟨h1,h2⟩:=qdq r (i+1) k x h
    refine⟨by omega,?_⟩
    rw [show k - i=(k - (i+1))+1 by omega]
    simpa using h2
def start (n:Nat) (args:List IV) (h:IH):qaa:= {n,s:=enum 0 args,d:= [],nx:=h.nx,l:= []}
structure qcl (h:IH) (ids:List Nat) (S:qaa) (x y:IV) (nx':Nat) (l':List (Nat × IBlk)):Prop where
 sub:Sub h ids S {S with s:= [],nx:=nx',l:=l'}
 fz:Fz (look (S.l++h.m)) ids x y
 bel:nx'=S.nx∨bel nx' y
inductive qeI (P:Program) (fn:Func) (h:IH) (Q:IEnd→Nat→List (Nat × IBlk)→Prop):Exit→qaa→Prop where
 | norm (S:qaa) (x y:IV) (ids:List Nat) (nx':Nat) (l':List (Nat × IBlk)) (hd:S.d= []) (hx:ires P S (S.l++h.m) fn.results.toList=some x)
   (hl:qcl h ids S x y nx' l') (hq:Q (.ret y) nx' l'):qeI P fn h Q .normal S
 | ret (S:qaa) (x y:IV) (ids:List Nat) (nx':Nat) (l':List (Nat × IBlk)) (hd:S.d= []) (hx:ires P S (S.l++h.m) fn.results.toList=some x)
   (hl:qcl h ids S x y nx' l') (hq:Q (.ret y) nx' l'):qeI P fn h Q .ret S
 | pan (S:qaa) (ch:List PanicEntry) (ids:List Nat) (nx':Nat) (l':List (Nat × IBlk)) (hd:S.d= []) (hl:Sub h ids S {S with s:= [],nx:=nx',l:=l'})
   (hq:Q (.pan ch) nx' l'):qeI P fn h Q (.panic ch) S
def qgs (tmps:Array Value):ResultVar→Sem Value
 | .tmp t=>pure (tmps.getD t undef)
 | .cell p t=>do loadVar t (←asAddr (tmps.getD p undef))
theorem qoU (fn:Func) (tmps:Array Value):results fn tmps=(do let vs ←fn.results.mapM (qgs tmps);pure (if h:vs.size=1 then vs[0] else .tuple vs)):=by
 unfold results
 congr 1
theorem qpZ {S:qaa} {M:Mem} {a:Act} (hr:SRel h0 S M a) {r:ResultVar} {x:IV} (h:qj9 P S (S.l++h0.m) r=some x):
  ∃v,(qgs a.tmps r).run P M.w= .ok v M.w∧VRel M x v:=by
 cases r with
 | tmp t=>
   obtain⟨v,h1,h2⟩:=hr.slot t x h
   exact⟨v,by simp [qgs,h1],h2⟩
 | cell p t=>
   simp only [qj9] at h
   split at h
   ·rename_i b g r j hp
    split at h
    ·rename_i sz g' rows hb
     split at h
     ·rename_i hg
      subst hg
      split at h
      ·rename_i row hrow
       obtain⟨v,h1,h2⟩:=hr.slot p _ hp
       have hb':M.H.G b=some (.arr sz g rows):=by rw [hr.heap.G];exact hb
       obtain⟨c,o',n,hc,hv⟩:=h2.ptr_inv hb' rfl
       obtain⟨u,u1,u2⟩:=load_row (P:=P) (M:=M) h c (o'+(r * sz+j)) (fun k y' hk=>by
        rw [List.getElem?_drop] at hk
        obtain⟨u,u1,u2,u3⟩:=(hr.heap.rel.blk b _ hb').row hrow hc (j+k) y' hk
        exact⟨u,by rw [←u1];congr 2;omega,u2,u3⟩)
       simp only [IBlk.sz] at hv
       refine⟨u,?_,u2⟩
       simp only [qgs,Array.getD_eq_getD_getElem?,h1,Option.getD_some,hv,asAddr,Sem.run_bind,Sem.run_pure,Result.andThen_ok,u1]
      ·cases h
     ·cases h
    ·cases h
   ·cases h
theorem run_iress {S:qaa} {M:Mem} {a:Act} (hr:SRel h0 S M a): ∀ {rs:List ResultVar} {xs:List IV},qgg P S (S.l++h0.m) rs=some xs→
  ∃vs:List Value,(rs.mapM (qgs a.tmps)).run P M.w= .ok vs M.w∧vs.length=xs.length∧ ∀(i:Nat) (x:IV) (v:Value),xs[i]? =some x→vs[i]? =some v→VRel M x v
 | [],xs,h=>by simp only [qgg,Option.some.injEq] at h;subst h;exact⟨[],by simp,rfl,by simp⟩
 | r::rs,xs,h=>by
   unfold qgg at h
   split at h
   ·rename_i x xs' hx hxs
    simp only [Option.some.injEq] at h;subst h
    obtain⟨v,v1,v2⟩:=qpZ (P:=P) hr hx
    obtain⟨vs,w1,w2,w3⟩:=run_iress hr hxs
    refine⟨v::vs,?_,by simp [w2],fun i y u hi hu=>?_⟩
    ·simp only [List.mapM_cons,Sem.run_bind,v1,Result.andThen_ok,w1,Sem.run_pure]
    ·cases i with
     | zero=>simp at hi hu;subst hi;subst hu;exact v2
     | succ i=>exact w3 i y u (by simpa using hi) (by simpa using hu)
   ·cases h
theorem run_ires {S:qaa} {M:Mem} {a:Act} (hr:SRel h0 S M a) {fn:Func} {x:IV} (h:ires P S (S.l++h0.m) fn.results.toList=some x):
  ∃v,(results fn a.tmps).run P M.w= .ok v M.w∧VRel M x v:=by
 have hres: ∀vs:List Value,(fn.results.toList.mapM (qgs a.tmps)).run P M.w= .ok vs M.w→
   (results fn a.tmps).run P M.w= .ok (if h:(⟨vs⟩:Array Value).size=1 then(⟨vs⟩:Array Value)[0] else .tuple ⟨vs⟩) M.w:=by
  intro vs hvs
  rw [qoU,Sem.run_bind,Array.mapM_eq_mapM_toList]
  simp only [Sem.run_map,hvs,Result.andThen_ok,Sem.run_pure]
 unfold ires at h
 split at h
 ·rename_i y hy
  simp only [Option.some.injEq] at h;subst h
  obtain⟨vs,w1,w2,w3⟩:=run_iress (P:=P) hr hy
  match vs,w2 with
  | [v],_=>
    refine⟨v,?_,w3 0 y v rfl rfl⟩
    rw [hres _ w1]
    rfl
 ·rename_i xs hne hxs
  simp only [Option.some.injEq] at h;subst h
  obtain⟨vs,w1,w2,w3⟩:=run_iress (P:=P) hr hxs
  refine⟨.tuple ⟨vs⟩,?_, .tup xs vs w2 w3⟩
  rw [hres _ w1]
  have: ¬(⟨vs⟩:Array Value).size=1:=by
   simp only [List.size_toArray,w2]
   intro e
   match xs,e with
   | [z],_=>exact hne z rfl
  rw [dif_neg this]
 ·cases h
theorem icall_of {f:FuncId} {fn:Func} {c:Code} {args:List IV} {h:IH} {Q:IEnd→Nat→List (Nat × IBlk)→Prop} (hf:P.funcs[f]? =some fn) (hb:fn.body=some c) (hn:args.length≤fn.ntmps)
  (hc:qbd P h c (start fn.ntmps args h) (qeI P fn h Q)):qa5 P f args h Q:=by
 intro M vs hM hl hr
 refine calls_of_wp hf hb (wp_mono (wpIn_wide.1 (hc M hM M {tmps:=(⟨vs⟩:Array Value)++Array.replicate (fn.ntmps - (⟨vs⟩:Array Value).size) undef,defers:= []} (.refl M) ⟨by simpa [start] using hM,?_,fun i x hi=>?_,trivial⟩ none (.inl rfl))) ?_)
 ·simp [start,hl];omega
 ·obtain⟨_,h2⟩:=qdq args 0 i x hi
  have hlt:=qab h2
  simp only [Nat.sub_zero] at h2 hlt
  refine⟨vs[i]'(by omega),?_,hr i x _ h2 (List.getElem?_eq_getElem (by omega))⟩
  simp only
  rw [Array.getElem?_append]
  simp only [List.size_toArray]
  rw [if_pos (by omega)]
  simp [List.getElem?_eq_getElem (show i < vs.length by omega)]
 ·rintro e a' w' ⟨M',S',rfl,st,hrel,hq⟩
  have fin:(e= .normal∨e= .ret)→a'.defers= []∧ ∃v,(results fn a'.tmps).run P M'.w= .ok v M'.w∧ ∃M'' nx' l' r,M''.w=M'.w∧qae M M''∧HRel nx' (l'++h.m) M''∧qbF M'' r (.returned v)∧Q r nx' l':=by
   intro he
   have hq':S'.d= []∧ ∃x,ires P S' (S'.l++h.m) fn.results.toList=some x∧ ∃ids y nx' l',qcl h ids S' x y nx' l'∧Q (.ret y) nx' l':=by
    rcases he with rfl | rfl
    ·cases hq with
     | norm S x y ids nx' l' hd hx hl hq=>exact⟨hd,x,hx,ids,y,nx',l',hl,hq⟩
    ·cases hq with
     | ret S x y ids nx' l' hd hx hl hq=>exact⟨hd,x,hx,ids,y,nx',l',hl,hq⟩
   obtain⟨hd,x,hx,ids,y,nx',l',hle,hqq⟩:=hq'
   obtain⟨v,v1,v2⟩:=run_ires (P:=P) hrel hx
   obtain⟨M'',k1,k2,k3,k4⟩:=qb9 hle.sub hM st hrel
   have hdd:a'.defers= []:=by
    have:=hrel.defs
    rw [hd] at this
    cases hds:a'.defers with
    | nil=>rfl
    | cons d ds=>rw [hds] at this;exact this.elim
   exact⟨hdd,v,v1,M'',nx',l', .ret y,k1,k2,k3.heap,⟨v,rfl,k4 x y v v2 hle.fz hle.bel⟩,hqq⟩
  cases e with
  | normal=>exact fin (.inl rfl)
  | ret=>exact fin (.inr rfl)
  | panic ch=>
    obtain⟨ids,nx',l',hd,hsub,hqq⟩: ∃ids nx' l',S'.d= []∧Sub h ids S' {S' with s:= [],nx:=nx',l:=l'}∧Q (.pan ch) nx' l':=by
     cases hq with
     | pan S ch ids nx' l' hd hl hq=>exact⟨ids,nx',l',hd,hl,hq⟩
    obtain⟨M'',k1,k2,k3,k4⟩:=qb9 hsub hM st hrel
    have hdd:a'.defers= []:=by
     have:=hrel.defs
     rw [hd] at this
     cases hds:a'.defers with
     | nil=>rfl
     | cons d ds=>rw [hds] at this;exact this.elim
    exact⟨hdd,M'',nx',l', .pan ch,k1,k2,k3.heap,rfl,hqq⟩
  | exit id=>cases hq
  | goto l=>cases hq
  | outgrown=>cases hq
end Go.Idl
