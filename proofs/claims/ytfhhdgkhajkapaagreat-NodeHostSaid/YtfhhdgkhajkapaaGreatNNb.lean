/- Facts leant on. -/
import Derived.Test.YtfhhdgkhajkapaaGreatIdZo
import Derived.Test.YtfhhdgkhajkapaaGreatGN
import Derived.Test.YtfhhdgkhajkapaaGreatNPS
set_option linter.all false
open Nat renaming beq->Ka,ble->Kb,ne_of_beq_eq_false->Kc
open List renaming replicate->Kd,rec->Ke,take_of_length_le->Kf,take_succ_cons->Kg,take_zero->Kh,drop_succ_cons->Ki,drop_zero->Kj
open True renaming intro->Kk
open Array renaming replicate->Kl
open Option renaming none->U,some->V
open Bool renaming true->Y,false->Z
namespace Go.Idl
abbrev FK:=Program->(Operand->Option IV)->(Nat->Option IBlk)->Nat->Array Oper->Option Tmp->Option FR
def kMove(y:Operand):FK:=λ_ a _ _ _ _=>(a y).map λz=> {x:=z}
def kPick(c x y:Operand):FK:=λ_ a _ _ _ _=>match a c,a x,a y with
 | some (.p (.sc (.bool t))),V u,V v=>V {x:=if t then u else v}
 | _,_,_=>U
def kLoad(t:TypeId)(y:Operand):FK:=λP a G _ _ _=>(a y).bind (qgQ P G t)
def kFaddr(s:TypeId)(y:Operand)(f:Nat):FK:=λP a _ _ _ _=>(a y).bind (qeQ P s f)
def kIaddr(t:TypeId)(x i:Operand):FK:=λP a G _ _ _=>match a x,a i with
 | some z,V b=>qeS P G t z b
 | _,_=>U
def kIndex(t:TypeId)(x i:Operand):FK:=λP a _ _ _ _=>match a x,a i with
 | some z,V b=>qeU P t z b
 | _,_=>U
def kField(t:TypeId)(x:Operand)(f:Nat):FK:=λP a _ _ _ _=>(a x).bind (qeR P t f)
def kSlice(t:TypeId)(x:Operand)(l h mx:Option Operand):FK:=λP a G _ _ _=>match a x,ropt a l,ropt a h,ropt a mx with
 | some d,V z,V b,V c=>qeX P G t d z b c
 | _,_,_,_=>U
def kBin(op:BinOp)(t:TypeId)(x y:Operand):FK:=λP b G _ _ _=>match b x,b y with
 | some z,V a=>orE (fbin P op t z a) (orE (qeg op z a) (orE (feqv P op t z a) (fslnil P G op t z a)))
 | _,_=>U
def kUn(op:UnOp)(x:Operand):FK:=λ_ a _ _ _ _=>(a x).bind (fun1 op)
def kConv(s d:TypeId)(x:Operand):FK:=λP a G _ _ _=>(a x).bind λz=>orE (fconv P s d z) (fb2s P G s d z)
def kExtr(x:Operand)(i:Nat):FK:=λ_ a _ _ _ _=>(a x).bind (fextract i)
def kMkfn(fn:Fn)(first cap:Array Operand):FK:=λ_ a _ _ _ _=>match rlist a first.toList,rlist a cap.toList with
 | some z,V b=>V {x:= .clo fn z b}
 | _,_=>U
def kMkif(t:TypeId)(x:Operand):FK:=λP a _ _ _ _=>(a x).bind (qeT P t)
def kNil(x:Operand):FK:=λ_ a _ _ _ _=>(a x).bind fnil
def kBuild(t:TypeId)(parts:Array (Nat × Operand)):FK:=λP a _ _ _ _=>(rparts a parts.toList).bind (qeP P t)
def kBsl(t:TypeId)(len:Nat)(parts:Array (Nat × Operand)):FK:=λP b _ n a d=>(rparts b parts.toList).bind (qc3 P n (qkf a d) t len)
def kBox(x:Operand):FK:=λ_ a _ n _ _=>(a x).bind (fbox n)
def kAlloc(t:TypeId):FK:=λP _ _ n _ _=>qeN P n t
def kMake(t:TypeId)(l c:Operand):FK:=λP a _ n _ _=>match a l,a c with
 | some z,V b=>qgR P n t z b
 | _,_=>U
def kStore(t:TypeId)(p x:Operand):FK:=λP a G _ _ _=>match a p,a x with
 | some z,V b=>fstore P G t z b
 | _,_=>U
def kMkmap(r:Option Operand):FK:=λ_ _ _ n _ _=>match r with
 | none=>qgh n U
 | some _=>U
def kLook(t:TypeId)(x i:Operand)(o:Bool):FK:=λP a G _ _ _=>match a x,a i with
 | some z,V b=>qeV P G t z b o
 | _,_=>U
def kMapu(t:TypeId)(m k x:Operand):FK:=λP a G _ _ _=>match a m,a k,a x with
 | some z,V b,V c=>qd4 P G t z b c
 | _,_,_=>U
def kMape(t:TypeId)(m k:Operand):FK:=λP a G _ _ _=>match a m,a k with
 | some z,V b=>qeW P G t z b
 | _,_=>U
def kEnts(m s x:Operand):FK:=λ_ a G _ _ _=>match a m,a s,a x with
 | some z,V b,V c=>qgb G z b c
 | _,_,_=>U
def qsa(x:Operand)(t:TypeId)(o:Bool):FK:=λP a _ _ _ _=>(a x).bind (qeO P t o)
def kNo:FK:=λ_ _ _ _ _ _=>U
def kCap(args:List Operand)(ts:List TypeId):FK:=λP a _ _ _ _=>match args,ts with
 | [x], [t]=>(a x).bind λz=>if(tel P t).isSome then fcap z else U
 | _,_=>U
def kLen(args:List Operand)(ts:List TypeId):FK:=λP a G _ _ _=>match args,ts with
 | [x], [t]=>(a x).bind λz=>if qef P t z then flen G z else U
 | _,_=>U
def kApp(args:List Operand)(ts:List TypeId):FK:=λP a G n _ _=>match args,ts with
 | [s,x], [t,b]=>match a s,a x with
   | some z,V c=>orE (fapp P G n t b z c) (qh4 P n t b z c)
   | _,_=>U
 | _,_=>U
def kCopy(args:List Operand)(ts:List TypeId):FK:=λP a G _ _ _=>match args,ts with
 | [s,x],t::_=>match a s,a x with
   | some z,V b=>qgP P G t z b
   | _,_=>U
 | _,_=>U
def kClear(args:List Operand)(ts:List TypeId):FK:=λP a G _ _ _=>match args,ts with
 | [x], [t]=>(a x).bind (qga P G t)
 | _,_=>U
def kMax(mx:Bool)(args:List Operand):FK:=λ_ a _ _ _ _=>(rlist a args).bind (fmax mx)
def kCallx(f:Operand)(args:List Operand):FK:=λP a _ _ _ _=>qf9 P a f args
def qqW(b:Builtin)(args:List Operand)(ts:List TypeId):FK:=match b with
 | .cap=>kCap args ts
 | .len=>kLen args ts
 | .append=>kApp args ts
 | .copy=>kCopy args ts
 | .clear=>kClear args ts
 | .max=>kMax Y args
 | .min=>kMax Z args
 | _=>kNo
def qsb(c:Callee)(args:List Operand)(ts:List TypeId):FK:=match c with
 | .builtin b=>qqW b args ts
 | .value f=>kCallx f args
 | _=>kNo
def fopK(op:Op):FK:=match op with
 | .move y=>kMove y
 | .assign y=>kMove y
 | .pick c x y=>kPick c x y
 | .load t y=>kLoad t y
 | .fieldAddr s y f=>kFaddr s y f
 | .indexAddr t x i=>kIaddr t x i
 | .index t x i=>kIndex t x i
 | .field t x f=>kField t x f
 | .slice t x g h j=>kSlice t x g h j
 | .binOp op t x y _=>kBin op t x y
 | .unOp op _ x=>kUn op x
 | .convert s d x=>kConv s d x
 | .extract x i=>kExtr x i
 | .makeFunc n first b=>kMkfn n first b
 | .makeInterface t x=>kMkif t x
 | .nilCheck x=>kNil x
 | .build t a=>kBuild t a
 | .buildSlice t e a=>kBsl t e a
 | .box _ x=>kBox x
 | .alloc t=>kAlloc t
 | .makeSlice t l c=>kMake t l c
 | .store t p x=>kStore t p x
 | .makeMap _ r=>kMkmap r
 | .lookup t x i o=>kLook t x i o
 | .mapUpdate t m k x=>kMapu t m k x
 | .insert t m k x=>kMapu t m k x
 | .mapEntry t m k=>kMape t m k
 | .entryStore _ m s x=>kEnts m s x
 | .typeAssert x _ t o=>qsa x t o
 | .call c=>qsb c.callee c.args.toList c.argTypes.toList
 | _=>kNo
def qr3(op P ρ G nx d dst):fopK op P ρ G nx d dst=fop P ρ G nx d dst op:=by
 cases op with
 | call c=>
   obtain⟨a,e,t⟩:=c;cases a with
   | builtin b=>cases b<;>rfl
   | value f=>rfl
   | _=>rfl
 | _=>rfl
noncomputable def qg0{a:Type}(s:List (Nat × a))(i:Nat):Option a:=Ke U (λp _ b=>Bool.rec b (V p.2) (Ka p.1 i)) s
theorem lookB_eq{a}(s:List (Nat × a))(i):qg0 s i=look s i:=by
 induction s with
 | nil=>rfl
 | cons p r b=>
   show(Bool.rec (qg0 r i) (V p.2) (Ka p.1 i):Option a)=_;rw[b];obtain⟨k,x⟩:=p;simp[look];cases e:Ka k i with
   | true=>simp_all
   | false=>rw[if_neg (Kc e)]
noncomputable def evB(s:List (Nat × IV)):Operand->Option IV
 | .tmp t=>qg0 s t
 | .const v=>cst v
 | .func f=>V (.p (.sc (.func (.func f) #[] #[])))
 | .global _=>U
theorem qdp:evB=ev:=by
 funext s y;cases y<;>first | rfl | exact lookB_eq _ _
noncomputable def lkB(l m:List (Nat × IBlk))(i:Nat):Option IBlk:=Option.rec (qg0 m i) (λx=>V x) (qg0 l i)
theorem qeZ(l m):lkB l m=look (l++m):=by
 funext i;unfold lkB;rw[lookB_eq,lookB_eq,qae];cases look l i<;>rfl
noncomputable def outB(b:Nat)(l:List (Nat × IBlk)):List (Nat × IBlk):=Ke [] (λp _ i=>Bool.rec (p::i) i (Ka p.1 b)) l
def qsq(b l):outB b l=l.filter λq=>q.1 != b:=by
 induction l with
 | nil=>rfl
 | cons p r i=>
   show(Bool.rec (p::outB b r) (outB b r) (Ka p.1 b):List (Nat × IBlk))=_;rw[i,List.filter_cons];cases e:Ka p.1 b with
   | true=>simp_all
   | false=>rw[if_pos (by simpa using Kc e)]
noncomputable def ddpB(l:List (Nat × IBlk)):List (Nat × IBlk):=Ke [] (λp _ i=>p::outB p.1 i) l
theorem qfj:ddpB=ddp:=by
 funext l;induction l with
 | nil=>rfl
 | cons p r i=>
   show p::outB p.1 (ddpB r)=_;rw[i,qsq];rfl
noncomputable def qeY(a:Array Oper)(s:List (Nat × IV))(o:Oper):Option Bool:=
 match o.guard with
 | none=>V Y
 | some (j,w)=>match(a[j]?).bind (·.dst) with
   | some d=>match qg0 s d with
     | some (.p (.sc (.bool b)))=>V (qko (V b) w)
     | some (.tup [])=>V (qko U w)
     | _=>U
   | none=>U
theorem qdU:qeY=qam:=by
 funext a s o
 grind[lookB_eq,qeY,qam,qgq]
theorem qhD(op):fopK op=λP ρ G nx a dst=>fop P ρ G nx a dst op:=by
 funext P ρ G nx a dst;exact qr3 ..
noncomputable def qkn(b:Bool)(h:IH)(x:IV)(S:qab):IEnd × Nat × List (Nat × IBlk):=
 match b with
 | false=>(.ret x,S.nx,ddpB S.l)
 | true=>match geB h.nx (S.l.map (·.1)) && geB h.nx (refs x),frz (lkB S.l h.m) x with
   | true,V y=>(.ret y,h.nx, [])
   | _,_=>(.ret x,S.nx,ddpB S.l)
noncomputable def xcdK(r:XRun)(z:FuncId->Bool)(P:Program)(c:FuncId)(zs:List IV)(h:IH)(u:qaL):Option (IEnd × qaL × Nat × List (Nat × IBlk)):=
 match P.funcs[c]? with
 | some f=>match f.body with
   | some b=>match Kb zs.length f.ntmps with
     | true=>match xsv r (z c) h 1000 b (start f.ntmps zs h) u with
       | some (e,a,S)=>match S.d,Kb h.nx S.nx with
         | [],Y=>match e with
           | .normal=>match ires P S (S.l++h.m) f.results.toList with
             | some x=>V (.ret x,a,S.nx,ddpB S.l)
             | none=>U
           | .ret=>match ires P S (S.l++h.m) f.results.toList with
             | some x=>V (.ret x,a,S.nx,ddpB S.l)
             | none=>U
           | .panic d=>V (.pan d,a,S.nx,ddpB S.l)
           | _=>U
         | _,_=>U
       | none=>U
     | false=>U
   | none=>U
 | none=>U
noncomputable def xldK(r:XRun)(z:FuncId->Bool)(P:Program)(fn:Func)(b:Bool)(h:IH):List IDef->qab->qaL->Option (IEnd × Nat × List (Nat × IBlk))
 | [],S,u=>match Kb h.nx S.nx with
   | true=>match u with
     | .ret=>match ires P {S with d:= []} (S.l++h.m) fn.results.toList with
       | some x=>V (qkn b h x {S with d:= []})
       | none=>U
     | .pan c=>V (.pan c,S.nx,ddpB S.l)
   | false=>U
 | ⟨.func f,e,a⟩::j,S,u=>match fnOk P f with
   | true=>match xcdK r z P f (a++e) ⟨S.nx,S.l++h.m⟩ u with
     | some (.ret _,g,n,i)=>xldK r z P fn b h j {S with nx:=n,l:=i++S.l} (qce g)
     | some (.pan c,g,n,i)=>xldK r z P fn b h j {S with nx:=n,l:=i++S.l} (qe0 g c)
     | none=>U
   | false=>U
 | _::_,_,_=>U
noncomputable def xmkK(P:Program)(fn:Func)(b:Bool)(h:IH)(S:qab):Option (IEnd × Nat × List (Nat × IBlk)):=
 match qcr h S.d S.l with
 | some a=>match Kb h.nx S.nx,ires P {S with d:= [],l:=a} (a++h.m) fn.results.toList with
   | true,V x=>V (qkn b h x {S with d:= [],l:=a})
   | _,_=>U
 | none=>U
noncomputable def qiM(r:XRun)(z:FuncId->Bool)(P:Program)(fn:Func)(b:Bool)(h:IH)(S:qab)(u:qaL):Option (IEnd × Nat × List (Nat × IBlk)):=
 match qpN S.d,u with
 | true, .ret=>xmkK P fn b h S
 | _,_=>xldK r z P fn b h S.d S u
noncomputable def xfK(r:XRun)(z:FuncId->Bool)(P:Program)(b:Bool)(c:FuncId)(zs:List IV)(h:IH):Option (IEnd × Nat × List (Nat × IBlk)):=
 match P.funcs[c]? with
 | some f=>match f.body with
   | some a=>match Kb zs.length f.ntmps with
     | true=>match r (z c) h [.code a] (start f.ntmps zs h) with
       | some (.normal,S)=>qiM r z P f b h S .ret
       | some (.ret,S)=>qiM r z P f b h S .ret
       | some (.panic d,S)=>qiM r z P f b h S (.pan d)
       | _=>U
     | false=>U
   | none=>U
 | none=>U
noncomputable def xpK(r:XRun)(z:FuncId->Bool)(P:Program)(c:FuncId)(zs:List IV):Option IV:=
 match qbS.goB zs with
 | true=>match xfK r z P Y c zs ⟨0, []⟩ with
   | some (.ret y,n, [])=>match Ka n 0 && qbS y with
     | true=>V y
     | false=>U
   | _=>U
 | false=>U
noncomputable def xdK(p:FuncId->List IV->Option IV)(e:FuncId->List IV->IH->Option (IEnd × Nat × List (Nat × IBlk)))(P:Program)(h0:IH)(a:Array Oper):List Oper->qab->List FP->Option (qab × List FP)
 | [],S,b=>V (S,b)
 | o::r,S,b=>
   match dOk S.n o.dst with
   | true=>match qeY a S.s o with
     | some Y=>match fopK o.op P (evB S.s) (lkB S.l h0.m) S.nx a o.dst with
       | some d=>xdK p e P h0 a r ⟨S.n,putS o.dst d.x S.s,S.d,S.nx+d.F.length,d.W.reverse++S.l⟩ (b++ [d.fp])
       | none=>match o.op with
         | .call {callee:= .value f,args,argTypes:=_}=>match qao (evB S.s) f args.toList with
           | some (c,z)=>match fnOk P c with
             | true=>match xview p (lkB S.l h0.m) c z with
               | some (x,R)=>xdK p e P h0 a r ⟨S.n,putS o.dst x S.s,S.d,S.nx,S.l⟩ (b++ [(R.map (·.1), [])])
               | none=>match xeff e (lkB S.l h0.m) S.nx c z with
                 | some (x,k,R,l)=>xdK p e P h0 a r ⟨S.n,putS o.dst x S.s,S.d,S.nx+k,l++S.l⟩ (b++ [(R.map (·.1),l.reverse.map (·.1))])
                 | none=>U
             | false=>U
           | none=>U
         | _=>U
     | some Z=>xdK p e P h0 a r ⟨S.n,putS o.dst (.tup []) S.s,S.d,S.nx,S.l⟩ (b++ [([], [])])
     | none=>U
   | false=>U
noncomputable def qmg(s:List (Nat × IV)):Op->Option (FuncId × List IV)
 | .call {callee:= .value f,args,argTypes:=_}=>qao (evB s) f args.toList
 | _=>U
noncomputable def qnH(s:List (Nat × IV)):Op->Option Value
 | .panic x=>match evB s x with
   | some (.p (.sc (.iface t v)))=>V (.iface t v)
   | _=>U
 | _=>U
noncomputable def qnF(s:List (Nat × IV)):Op->Option IDef
 | .defer {callee:= .value f,args,argTypes:=_}=>qgk (evB s) f args.toList
 | _=>U
noncomputable def xopK(r:XRun)(z:FuncId->Bool)(P:Program)(b:Bool)(h:IH)(a:Array Oper)(o:Oper)(S:qab):Option (Exit × qab):=
 match xapn P h o S with
 | some e=>V (.normal,e)
 | none=>match fopK o.op P (evB S.s) (lkB S.l h.m) S.nx a o.dst with
 | some f=>V (.normal,S.put o.dst f.x (S.nx+f.F.length) f.W.reverse)
 | none=>match qmg S.s o.op with
   | some (c,g)=>match fnOk P c with
     | true=>match xfK r z P b c g ⟨S.nx,S.l++h.m⟩ with
       | some (.ret x,nx,l)=>V (.normal,S.put o.dst x nx l)
       | some (.pan i,nx,l)=>V (.panic i, {S with nx,l:=l++S.l})
       | none=>U
     | false=>U
   | none=>match qnH S.s o.op with
     | some v=>V (.panic [{v:=v,recovered:=false}],S)
     | none=>match qnF S.s o.op with
       | some x=>V (.normal, {S.put o.dst (.tup []) S.nx [] with d:=x::S.d})
       | none=>U
noncomputable def oXK(P:Program)(h0:IH)(a:Array Oper)(o:Oper)(S:qab):Option qab:=
 match qeY a S.s o with
 | some Y=>match fopK o.op P (evB S.s) (lkB S.l h0.m) S.nx a o.dst,dOk S.n o.dst with
   | some f,Y=>V ⟨S.n,putS o.dst f.x S.s,S.d,S.nx+f.F.length,f.W.reverse++S.l⟩
   | _,_=>U
 | some Z=>match dOk S.n o.dst with
   | true=>V ⟨S.n,putS o.dst (.tup []) S.s,S.d,S.nx,S.l⟩
   | false=>U
 | none=>U
mutual
noncomputable def qim(P:Program)(h0:IH)(all:Array Oper)(fin:qab->Bool):OT->qab->Bool
 | .leaf,S=>fin S
 | .node bs,S=>qgv P h0 all fin bs S
noncomputable def qgv(P:Program)(h0:IH)(all:Array Oper)(fin:qab->Bool):List (Nat × OT)->qab->Bool
 | [],_=>Y
 | (i,t)::r,S=>(match all[i]? with
   | some o=>match oXK P h0 all o S with
     | some S'=>qim P h0 all fin t S'
     | none=>Z
   | none=>Z) && qgv P h0 all fin r S
end
noncomputable def qkh(P:Program)(h0:IH)(a:Array Oper):List Nat->qab->Option qab
 | [],S=>V S
 | i::r,S=>match a[i]? with
   | some o=>match oXK P h0 a o S with
     | some b=>qkh P h0 a r b
     | none=>U
   | none=>U
noncomputable def xoK(P:Program)(h:IH)(o:Array Oper)(k:List It)(S:qab):Option qab:=
 match qkh P h o (List.range o.size) S with
 | some a=>match Kb h.nx a.nx && (S.d.isEmpty && (P.follows .mixedOrders && (liveB (unblk k) && ((mkT o (o.size+1) (Kl o.size Z)).all o o.size (Kl o.size Z) &&
   qim P h o (λb=>sameB (dsts o.toList) S.l.length a b) (mkT o (o.size+1) (Kl o.size Z)) S)))) with
   | true=>V ⟨a.n,qdL a.s (dsts o.toList)++dds (dsts o.toList) S.s, [],a.nx,ddpB a.l⟩
   | false=>U
 | none=>U
noncomputable def xdrK(p:FuncId->List IV->Option IV)(e:FuncId->List IV->IH->Option (IEnd × Nat × List (Nat × IBlk)))(P:Program)(h:IH)(o:Array Oper)(S:qab):Option qab:=
 match xdK p e P h o o.toList S [] with
 | some (a,f)=>match P.follows .mixedOrders,stat o.toList (uGo (qa0 o.toList []) 0 o.toList),chkB (uGo (qa0 o.toList []) 0 o.toList) f with
   | true,Y,Y=>V a
   | _,_,_=>U
 | none=>U
noncomputable def xplK(p:FuncId->List IV->Option IV)(e:FuncId->List IV->IH->Option (IEnd × Nat × List (Nat × IBlk)))(P:Program)(h:IH)(a:Array Oper)(S:qab):Option (List PanicEntry × qab):=
 match a.toList.getLast? with
 | some o=>match xdK p e P h a a.toList.dropLast S [] with
   | some (b,d)=>match o.op,qeY a b.s o,dOk b.n o.dst with
     | .call {callee:= .value f,args:=⟨args⟩,argTypes:=⟨t⟩},V Y,Y=>match qao (evB b.s) f args with
       | some (c,z)=>match fnOk P c,qbS.goB (qbw P t z),e c (qbw P t z) ⟨0, []⟩ with
         | true,Y,V (.pan g,_, [])=>match P.follows .mixedOrders && (stat a.toList (uGo (qa0 a.toList []) 0 a.toList) && (chkB (uGo (qa0 a.toList []) 0 a.toList) (d++ [([], [])]) &&
           (flGo (qa0 a.toList []) (a.toList.length - 1) 0 (Kd (a.toList.length - 1) 3++ [2]) && qiK (Kd (a.toList.length - 1) 3++ [2]) (d++ [([], [])])))) with
           | true=>V (g,⟨b.n, [],b.d,b.nx,b.l⟩)
           | false=>U
         | _,_,_=>U
       | none=>U
     | _,_,_=>U
   | none=>U
 | none=>U
noncomputable def xylK(r:XRun)(b:Bool)(h:IH)(o:Oper)(S:qab):Option qab:=
 match o.op with
 | .call {callee:= .value f,args,argTypes:=_}=>match evB S.s f with
   | some (.mp c)=>match lkB S.l h.m c,rlist (evB S.s) args.toList with
     | some (.ob (.lp n i p a g U) v),V z=>match Ka z.length p.length && (p.all (λt=>Nat.blt t n) && (ndC a && ndC g)) with
       | true=>match r b ⟨S.nx,outK c (S.l++h.m)⟩ [.code a] (qe3 n i p v z S.nx) with
         | some (.normal,k)=>match k.d.isEmpty with
           | true=>match r b ⟨S.nx,outK c (S.l++h.m)⟩ [.code g] k with
             | some (e,d)=>match nobB c (d.l++outK c (S.l++h.m)) && Kb S.nx d.nx with
               | true=>match qlz e with
                 | some U=>V (S.put o.dst (scb Y) d.nx d.l)
                 | some (V j)=>V (S.put o.dst (scb Z) d.nx ((c, .ob (.lp n i p a g (V j)) v)::d.l))
                 | none=>U
               | false=>U
             | none=>U
           | false=>U
         | _=>U
       | false=>U
     | _,_=>U
   | _=>U
 | _=>U
noncomputable def xrfK(r:XRun)(z:FuncId->Bool)(P:Program)(b:Bool)(h:IH)(g:Operand)(d:Array Nat)(a e:Code)(S:qab):Option (Option Code × qab):=
 match evB S.s g with
 | some x=>match ifnv x with
   | some (f,first,c)=>match fnOk P f with
     | true=>match xfK r z P b f (first++ [.mp (S.nx+1)]++c) ⟨S.nx+2,(S.nx+1, .ob (.lp S.n ((dds [] S.s).map (·.1)) d.toList a e U) ((dds [] S.s).map (·.2)))::(S.nx, .ob .df [])::(S.l++h.m)⟩ with
       | some (.ret _,n,l)=>match look (l++ [(S.nx+1, .ob (.lp S.n ((dds [] S.s).map (·.1)) d.toList a e U) ((dds [] S.s).map (·.2)))]) (S.nx+1) with
         | some (IBlk.ob (.lp _ _ _ _ _ p) _)=>V (p,qfH S n l)
         | _=>U
       | _=>U
     | false=>U
   | none=>U
 | none=>U
noncomputable def yrK(P:Program)(z a:FuncId->Bool):Nat->XRun
 | 0,_,_,_,_=>U
 | n+1,b,h,k,S=>match k with
   | []=>V (.normal,S)
   | .blk _::k=>yrK P z a n b h k S
   | .ops _ []::k=>yrK P z a n b h k S
   | .ops f (o::r)::k=>match qaC S o.dst with
     | true=>match qeY f S.s o with
       | some Y=>match xopK (yrK P z a n) z P b h f o S with
         | some (.normal,d)=>yrK P z a n b h (.ops f r::k) d
         | some (.panic j,d)=>V (.panic j,d)
         | some _=>U
         | none=>match xylK (yrK P z a n) b h o S with
           | some d=>yrK P z a n b h (.ops f r::k) d
           | none=>match xmw P h o S with
             | some d=>yrK P z a n b h (.ops f r::k) d
             | none=>U
       | some Z=>yrK P z a n b h (.ops f r::k) (S.put o.dst (.tup []) S.nx [])
       | none=>U
     | false=>U
   | .code c::k=>match c with
     | .skip=>yrK P z a n b h k S
     | .label _=>yrK P z a n b h k S
     | .seq x y=>yrK P z a n b h (.code x:: .code y::k) S
     | .block id c=>yrK P z a n b h (.code c:: .blk id::k) S
     | .exit id=>qdk (yrK P z a n) b h k (.exit id) S
     | .ret=>V (.ret,S)
     | .cond c x y=>match evB S.s c with
       | some (.p (.sc (.bool Y)))=>yrK P z a n b h (.code x::k) S
       | some (.p (.sc (.bool Z)))=>yrK P z a n b h (.code y::k) S
       | _=>U
     | .region _ i Z=>yrK P z a n b h (.ops i i.toList::k) S
     | .region _ i Y=>match xdrK (gdP a (xpK (yrK P z a n) z P)) (xfK (yrK P z a n) z P b) P h i S with
       | some d=>yrK P z a n b h k d
       | none=>match xoK P h i k S with
         | some d=>yrK P z a n b h k d
         | none=>match xplK (gdP a (xpK (yrK P z a n) z P)) (xfK (yrK P z a n) z P b) P h i S with
           | some (j,d)=>V (.panic j,d)
           | none=>U
     | .loop c=>match yrK P z a n b h [.code c] S with
       | some (.normal,d)=>yrK P z a n b h (.code (.loop c)::k) d
       | some (e,d)=>qdk (yrK P z a n) b h k e d
       | none=>U
     | .scope c=>match yrK P z a n b h [.code c] S with
       | some (.normal,d)=>yrK P z a n b h k d
       | some (e,d)=>qdk (yrK P z a n) b h k e d
       | none=>U
     | .rangeFunc g m l q=>match xrfK (yrK P z a n) z P b h g m l q S with
       | some (U,d)=>yrK P z a n b h k d
       | some (V c,d)=>yrK P z a n b h (.code c::k) d
       | none=>U
     | _=>U
theorem qj0:qkn=xret:=by
 unfold qkn xret;simp[qfj,qeZ];rfl
def qrw: @xcdK= @xcd:=by
 unfold xcdK xcd;simp[qfj];rfl
theorem qry: @xldK= @xld:=by
 funext r z P g b h a;induction a with
 | nil=>
   simp[xldK,qj0,qfj];rfl
 | cons d a i=>
   obtain⟨f,e,c⟩:=d;cases f<;>simp[xldK,xld,qrw,i]
   rfl
theorem qql: @qiM= @xend:=by
 funext r z P f b h S u;unfold qiM xend xmkK xmk
 grind[qry,qj0]
theorem qhe: @xfK= @xf:=by
 funext r z P b c a h
 grind[qql,xfK,xf]
def qnG: @xpK= @xp:=by
 funext r z P c a
 grind[qhe,xpK,xp]
theorem qnE: @xdK= @xd:=by
 funext p e P h a l;induction l with
 | nil=>rfl
 | cons o r i=>
   funext S b;rw[xdK,xd];simp[i,qdp,qeZ,qdU,qhD];rfl
def qrz: @xopK= @xop:=by
 unfold xopK xop qmg xcallOf qnH xpanOf qnF xdefOf;simp[qdp,qeZ,qhD,qhe];rfl
def qnu: @oXK= @oX:=by
 funext P h a o S
 grind[qdp,qeZ,qhD,qdU,oXK,oX]
mutual
theorem qlJ{P:Program}{h0:IH}{all:Array Oper}{fin:qab->Bool}: ∀(t:OT) (S:qab),qim P h0 all fin t S=oAll P h0 all fin t S
 | .leaf,S=>by rw[qim,oAll]
 | .node bs,S=>by rw[qim,oAll];exact qjB bs S
theorem qjB{P:Program}{h0:IH}{all:Array Oper}{fin:qab->Bool}: ∀(bs:List (Nat × OT)) (S:qab),qgv P h0 all fin bs S=qdW P h0 all fin bs S
 | [],S=>by rw[qgv,qdW]
 | (i,t)::r,S=>by
   rw[qgv,qdW,qjB r S,qnu];congr 1;cases all[i]? with
   | none=>rfl
   | some o=>
     simp only;cases oX P h0 all o S with
     | none=>rfl
     | some S'=>exact qlJ t S'
end
theorem qlK{P h0 a}: ∀(l S),qkh P h0 a l S=oFst P h0 a l S
 | [],S=>rfl
 | i::r,S=>by
   rw[qkh,oFst,qnu];cases a[i]? with
   | none=>rfl
   | some o=>
     simp only;cases oX P h0 a o S with
     | none=>rfl
     | some b=>exact qlK r b
def qsG: @xoK= @xo:=by
 funext P h o k S
 grind[qlK,qlJ,qfj,xoK,xo]
def qrx: @xdrK= @xdr:=by
 funext p e P h o S
 grind[qnE,xdrK,xdr]
def qrA: @xplK= @xpl:=by
 unfold xplK xpl;simp only[qnE,qdp,qdU]<;>rfl
def qrC: @xylK= @xyl:=by
 unfold xylK xyl;simp[qdp,qeZ]<;>rfl
def qrB: @xrfK= @xrf:=by
 funext r z P b h g p a c S
 grind[qdp,qhe,xrfK,xrf]
def qnI(P z y): ∀n,yrK P z y n=yr P z y n
 | 0=>rfl
 | n+1=>by
   funext b h k S;conv=>lhs;unfold yrK
   simp[qnI P z y n,qrC,qrB,qrz,qdp,qdU,qrx,qnG,qhe,qsG,qrA]<;>rfl
noncomputable def ypK(P:Program)(n:Nat)(z y:FuncId->Bool)(f:FuncId)(args:List IV)(b:Bool):Bool:=
 match xpK (yrK P z y n) z P f args with
 | some (.p (.sc (.bool c)))=>c==b
 | _=>Z
def ycallY{P}(n z y){f args b}(h:ypK P n z y f args b=Y):PCall P f args [] (scb b):=by
 unfold ypK at h;rw[qnI,qnG] at h;exact ycallB n z y h
variable{P:Program}{h0:IH}
def qpp{a dst t ty len parts b c g zs sz cs ps r S d K}
  (e:qam a S.s ⟨dst, .buildSlice t len ⟨parts⟩,ty,b,c,g⟩=V Y) (i:rparts (ev S.s) parts=V zs) (j:flit P t len zs=V (sz,cs)) (hp:pvs cs=V ps) (k:dOk S.n dst=Y)
  (h:DRun P h0 a r ⟨S.n,putS dst (if len=0 then .p .emp else .p (.imm sz (qa7 sz len ps))) S.s,S.d,S.nx,S.l⟩ (d++ [([], [])]) K):
  DRun P h0 a (⟨dst, .buildSlice t len ⟨parts⟩,ty,b,c,g⟩::r) S d K:=by
 obtain⟨f,l,m,n⟩:=h;have q:qc3 P S.nx Y t len zs=V {x:=if len=0 then .p .emp else .p (.imm sz (qa7 sz len ps))}:=by
  unfold qc3;rw[j];simp[hp];cases len<;>rfl
 have s:=qli (P:=P) (o:=⟨dst, .buildSlice t len ⟨parts⟩,ty,b,c,g⟩) (ρ:=ev S.s) (nx:=S.nx) rfl i q;refine⟨{x:=if len=0 then .p .emp else .p (.imm sz (qa7 sz len ps))}::f,l, .op e (qbl.loc s) (FR.fits.G fits_read) k wg,by simpa[FR.fp] using n⟩
end Go.Idl
/- What a node's parts do: marks, colours. -/
namespace Go.Proofs.NO
open Go Go.Idl Go.Proofs Go.GP Go.Proofs.Tryz
set_option maxHeartbeats 0
set_option maxRecDepth 100000
def qok(u:Hu)(e:Int):Pure prog 303 [lHu u,sci .i64 e] (scb (decide (e<=u.epoch))):=by
 refine zAa func303 λhs=>?_;exact zT
def qdS(u:Hu)(h:Hs)(e:Int)(hg:gHs h):Pure prog 191 [lHu u,lHs h,sci .i64 e] (.tup [lHu (qaW u h e).1,scb (qaW u h e).2]):=by
 unfold qaW;by_cases c:e<=u.epoch
 .rw[if_pos c];refine zAa func191 λhs=>?_;exact zU
 .rw[if_neg c];refine zAa func191 λhs=>?_;refine zP ?_;(refine zG ?_;refine qaa (qmD h hg) zB ?_);(try simp(disch:=omega) only[go_sem,simprocAttr,zD,zE,pcL])
def qmH(n:Nat)(hn:n<=5):Pure prog 249 [.p (.imm 1 [[.sc (.bool Y)]]),sci .i64 n] (lBo (Kd n Y)):=by
 obtain rfl | rfl | rfl | rfl | rfl | rfl:n=0\/n=1\/n=2\/n=3\/n=4\/n=5:=wa
 all_goals exact ycall 1000 (λ_=>Z) (λ_=>Z) we
def qe8(h:Hs)(e:Int)(hg:gHs h)(h5:h.inn.length<=5):Pure prog 190 [lHs h,sci .i64 e] (lMk (qa8 h e)):=by
 refine zAb func190 λhs=>?_;refine zM [1,2,4,77] ?_;refine qif (id:=1) (n:=200) [U,V [0,2,3,4,6],U,U,U,V [0,6],U,V [0],U,V []] mixed we (qfl 1 ?_);simp only[Kg,Kh,Ki,Kj];refine zV ?_;refine qpp (zs:= [(0,scb Y)]) (sz:=1) (cs:= [scb Y]) (ps:= [.sc (.bool Y)]) ?_ ?_ ?_ ?_ ?_ ?_
 .rfl
 .exact zT
 ·(try simp(maxSteps:=2000000) only[go_sem,simprocAttr,flit])
 .rfl
 .rfl
 refine qfl 3 ?_;simp only[Kg,Kh,Ki,Kj];(try simp(maxSteps:=2000000) only[go_sem,simprocAttr,qa7]);refine zX (qmH h.inn.length h5) ?_;(refine zF ?_;refine qaa (qmC h hg) zB ?_);(try simp(maxSteps:=2000000) (disch:=omega) only[go_sem,simprocAttr,zD,zE,qa8])
def qfs(m:Mk)(a:Int):Pure prog 293 [lMk m,sci .i64 a] (scb (decide (0<=a) && decide (a < m.opn.length))):=by
 refine zAb func293 λhs=>?_;by_cases c:0<=a
 .exact zy c
 .exact zy c
def qcO(a:Bool):Nat->List Bool->Int
 | _, []=> -1
 | i,x::r=>if x=a then i else qcO a (i+1) r
def qia{a:Bool}: ∀ {l:List Bool} {i:Nat},0<=qcO a i l↔a∈l
 | [],i=>by simp[qcO]
 | x::r,i=>by
   unfold qcO;split
   .rename_i e;simp[e]
   .rename_i e;rw[qia,List.mem_cons];exact⟨.inr,λh=>h.resolve_left λq=>e q.symm⟩
def qmn(l:List Bool)(a:Bool):Pure prog 350 [lBo l,scb a] (sci .i64 (qcO a 0 l)):=by
 refine zAa func350 λhs=>?_;simp only[go_sem,simprocAttr,maxLen] at hs;refine zV ?_;refine qac 200 200 (λi:Nat=>i<=l.length/\qcO a i (l.drop i)=qcO a 0 l)
  (λi=>⟨19, [(0,lBo l),(1,scb a),(7,sci .i64 l.length),(8,sci .i64 i)], [],0, []⟩) (λi=>l.length - i) (0) [] ?_ ?_ ?_
 .simp
 .exact zc (zQ @Int.natCast_zero (zQ @Kf.{0} @List.append_assoc.{0}))
 .rintro i hi;obtain⟨hi,hinvi⟩:=hi;refine zV ?_;by_cases li:i < l.length
  .rw[qaU li,qcO] at hinvi;(try simp(disch:=omega) only[go_sem,simprocAttr,zD,zE,eB]);by_cases c:l[i]=a
   .rw[if_pos c] at hinvi;exact zy (zQ c hinvi.symm)
   .rw[if_neg c] at hinvi;have c2:(a==l[i])=Z:=beq_eq_false_iff_ne.2 λq=>c q.symm
    refine zS c2 ?_;refine⟨i+1, [],⟨li,hinvi⟩,wa,?_⟩;constructor<;>exact zU
  .obtain rfl:i=l.length:=wa
   rw[List.drop_length,qcO] at hinvi;exact zy hinvi.symm
def qhO(l:List Bool)(a:Bool):Pure prog 336 [lBo l,scb a] (scb (decide (a∈l))):=by
 have h:=qia (a:=a) (l:=l) (i:=0);refine zAb func336 λhs=>?_;(refine zG ?_;refine qaa (qmn l a) zB ?_;refine zV ?_);by_cases c:a∈l
 .have:=h.2 c;exact zy c
 .have: ¬0<=qcO a 0 l:=λq=>c (h.1 q)
  exact zy c
def qou(m:Mk)(e:Int):Pure prog 302 [lMk m,sci .i64 e] (scb (tB (qgN m e))):=by
 by_cases c:m.epoch=e
 .by_cases d:Y∈m.opn
  .have t:tB (qgN m e)=Z:=qah λq=>q.2 d
   refine zAa func302 λhs=>?_;refine zS c ?_;(refine zG ?_;refine qaa (qhO m.opn Y) zB ?_);exact zy (zQ d t)
  .have t:tB (qgN m e)=Y:=qap ⟨c,d⟩;refine zAa func302 λhs=>?_;refine zS c ?_;(refine zG ?_;refine qaa (qhO m.opn Y) zB ?_);exact zy (zQ d t)
 .have t:tB (qgN m e)=Z:=qah λq=>c q.1
  refine zAa func302 λhs=>?_;exact zy (zQ c t)
def qlQ(m:Mk)(hg:gPc m.p)(ho:m.opn.length<=1000000):PG prog 294 [lMk m] [] 1
  (.agg [sci .i64 m.epoch, .ref 0 0 0 m.opn.length,sci .i64 m.p.node,sci .i64 m.p.state,sci .i64 m.p.steps,lI m.p.sent,lMs m.p.inn,lLs m.p.out]) [(0, .arr 1 0 (ir eB m.opn))]:=by
 refine zAg func294 0 λhs=>?_;(try simp(maxSteps:=2000000) (disch:=omega) only[go_sem,simprocAttr,zD,zE,maxLen]);refine zN [1,2,3,77] [U,U,U,U,U,V [0,1,2],U,V []] ?_;refine zX (qkS m.p hg) ?_;exact⟨[2],⟨rfl,wU⟩,rfl,rfl,rfl,qaB _⟩
def qmp(m:Mk)(h:Hs)(e a:Int)(hh:gHs h)(h5:h.inn.length<=5)(hg:gPc m.p)(ho:m.opn.length<=1000000)(hl:m.epoch=e->m.opn.length=h.inn.length):
  Pure prog 243 [lMk m,lHs h,sci .i64 e,sci .i64 a] (.tup [lMk (qaZ m h e a).1,scb (qaZ m h e a).2]):=by
 refine zAb func243 λhs=>?_;by_cases c1:a < 0
 .have z:qaZ m h e a=(m,Z):=by unfold qaZ;rw[if_pos (.inl c1)]
  rw[z];exact zy c1
 by_cases c2:(h.inn.length:Int)<=a
 .have z:qaZ m h e a=(m,Z):=by unfold qaZ;rw[if_pos (.inr c2)]
  rw[z];exact zy (zQ c1 c2)
 obtain⟨k,rfl⟩:=Int.eq_ofNat_of_zero_le (show 0<=a by omega);have hk:k < h.inn.length:=wa
 by_cases c3:m.epoch=e
 .have z:qaZ m h e k=(⟨m.epoch,m.opn.set k Z,m.p⟩,Z):=by unfold qaZ;rw[if_neg wa,if_pos c3,Int.toNat_natCast]
  rw[z];subst c3;have hk2:=hl rfl;have hk3:k < m.opn.length:=wa
  refine zS (zQ c1 c2) ?_;(refine at_g 200 ?_;refine zW ?_;refine callG_of [] (qlQ m hg ho) zU ?_);(try simp(maxSteps:=2000000) (disch:=omega) only[go_sem,simprocAttr,zD,zE,eB]);rw[Kf wb]
 .have z:qaZ m h e k=(⟨e,(Kd h.inn.length Y).set k Z,pcF h⟩,Y):=by unfold qaZ;rw[if_neg wa,if_neg c3,Int.toNat_natCast]
  rw[z];refine zS (zQ c1 (zQ c2 c3)) ?_;refine zY (qe8 h e hh h5) ?_;have hg2:gPc (qa8 h e).p:=by
   obtain⟨g1,g2,g3,g4⟩:=hh;exact⟨by simp[qa8,pcF];omega,by simp[qa8,pcF];omega,by simp[qa8,pcF],λx hx=>by simp only[qa8,pcF] at hx;rw[(List.mem_replicate.1 hx).2];simp,λx hx=>by simp[qa8,pcF] at hx⟩
  have hlen:(Kd h.inn.length Y).length=h.inn.length:=List.length_replicate;have ho2:=qlQ (qa8 h e) hg2 (by simp[qa8];omega);(refine at_g 200 ?_;refine zW ?_;refine callG_of [] (ho2) zU ?_);(try simp(maxSteps:=2000000) (disch:=omega) only[go_sem,simprocAttr,zD,zE,eB,qa8]);rw[Kf wb]
end Go.Proofs.NO
