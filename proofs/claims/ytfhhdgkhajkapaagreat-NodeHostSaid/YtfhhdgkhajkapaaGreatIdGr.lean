/- Facts leant on. -/
import Derived.Test.YtfhhdgkhajkapaaGreatNzP2
import Derived.Test.YtfhhdgkhajkapaaGreatIdRc
import Derived.Test.YtfhhdgkhajkapaaGreatIdNl
set_option linter.all false
open List renaming map_nil->Ka,length_take->Kb,length_cons->Kc,length_drop->Kd,take_length->Ke,take_succ_eq_append_getElem->Kf,drop_eq_getElem_cons->Kg,getElem_mem->Kh,take_take->Ki,map_cons->Kj
open Nat renaming add_sub_cancel->Kk,lt_or_ge->Kl,min_self->Km
/- Clone with its block. -/
namespace Go.Proofs.NO
open Go Go.Idl Go.Proofs Go.Proofs.Tryz
set_option maxHeartbeats 0
set_option maxRecDepth 100000
def CloneM_new(a:Int × Int)(r:List (Int × Int))(hn:r.length<=1000000):PG prog 229 [lII (a::r)] [] 1 (.ref 0 0 0 (r.length+1)) [(0, .arr 2 0 (ir eII (a::r)))]:=by
 have e:pr eII (a::r)=eII a::pr eII r:=rfl;refine zAh func229 0 λhs=>?_;(try simp(disch:=omega) only[go_sem,simprocAttr,if_pos,if_neg,w64,beqT,beqF,bneT,bneF,qai,qag,decide_eq_true,decide_eq_false,e]);refine⟨[0],wj,rfl,?_⟩;exact⟨rfl,rfl,qaB _⟩
def qmj:PG prog 229 [lII []] [] 1 (.ref 0 0 0 0) [(0, .arr 2 0 [])]:=by
 refine zAg func229 0 λhs=>?_;(try simp only[go_sem,simprocAttr,pr,Ka]);refine qdc (sz:=2) (rows:= []) rfl we wh λb hb=>?_;cases b
 .refine vc_sound _ 200 _ _ ?_;refine zV ?_;refine⟨[0],wj,rfl,?_⟩;exact⟨rfl,rfl,qaB _⟩
 .refine vc_sound _ 6 _ _ ?_;refine zV ?_;refine walk_own 2 2 trivial rfl (.inr rfl) ?_;refine vc_sound _ 200 _ _ ?_;refine zV ?_;refine⟨[0],wj,rfl,?_⟩;exact⟨rfl,rfl,qaB _⟩
def qnL(l:List (Int × Int))(hn:l.length<=1000000):PG prog 229 [lII l] [] 1 (.ref 0 0 0 l.length) [(0, .arr 2 0 (ir eII l))]:=by
 cases l with
 | nil=>exact qmj
 | cons a r=>exact CloneM_new a r (by rw[Kc] at hn;omega)
def qjD(x:List (Int × Int))(r:List (List (Int × Int)))(hx:x.length<=1000000)(hr:r.length<=1000000):
  PG prog 284 [.ptr 0 0 0 0] [cM (x::r)] 1 (.ref 1 0 0 x.length) [(1, .arr 2 0 (ir eII x)),(0,cM r)]:=by
 refine zAh func284 1 λhs=>?_;(try simp(disch:=omega) only[go_sem,simprocAttr,if_pos,if_neg,w64,beqT,beqF,bneT,bneF,qai,qag,decide_eq_true,decide_eq_false,eMs]);(refine at_g 200 ?_;refine zW ?_;refine callG_of [] (qnL x hx) zU ?_);(try simp(disch:=omega) only[go_sem,simprocAttr,if_pos,if_neg,w64,beqT,beqF,bneT,bneF,qai,qag,decide_eq_true,decide_eq_false,eMs,Kk,Ke]);exact⟨[1],wj,rfl,rfl,rfl,qaB _⟩
def qav(l:List (List (Int × Int)))(i0 b n:Nat)(i:Nat):List (List IV):=ir eMs (l.take i0)++ [.ref b 0 0 n]::ir eMs ((l.take i).drop (i0+1))
@[go_sem] def qsu{l:List (List (Int × Int))}{i0 b k i n:Nat}:qbj n (qav l i0 b k i)=(b < n):=by
  unfold qav;rw[qm9,qdZ];simp[qbj,qdZ,bels,bel]
def qoQ{l:List (List (Int × Int))}{i0 b k i:Nat}(h:i0 < i)(hi:i<=l.length):(qav l i0 b k i).length=i:=by
 unfold qav ir;simp only[List.length_append,Kc,List.length_map,Kb,Kd];omega
def qm8{l:List (List (Int × Int))}{i0 b k i:Nat}(h:i0 < i)(hi:i < l.length):qav l i0 b k (i+1)=qav l i0 b k i++ [(eMs l[i]).map .p]:=by
 unfold qav;rw[Kf hi,List.drop_append_of_le_length (by rw[Kb];omega),ir_snoc,List.append_assoc,List.cons_append]
def qm7{l:List (List (Int × Int))}{i0 k i:Nat}:rnRw (rsel 1 [1,2]) (qav l i0 2 k i)=qav l i0 2 k i:=by
 unfold qav;simp only[go_sem];rfl
def qot(l:List (List (Int × Int)))(i0:Nat)(h0:i0 < l.length)(hl: ∀x∈l,x.length<=1000000)(hn:l.length<=1000000):
  PG prog 283 [sci .i64 l.length, .clo (.func 284) [] [.ptr 0 0 0 0]] [cM l] 2 (.ref 1 l.length 0 l.length)
   [(1, .arr 1 l.length (qav l i0 2 l[i0].length l.length)),(2, .arr 2 0 (ir eII l[i0])),(0,cM [])]:=by
 refine zAh func283 1 λhs=>?_;refine walk_own 5 1 trivial rfl (.inr rfl) ?_;refine zM [1,5,6,7] ?_;refine qac 200 200 (λi:Nat × Bool=>i.1<=l.length/\(i.2=true↔i0 < i.1))
  (λi=>match i.2 with
   | false=>⟨16, [(1, .clo (.func 284) [] [.ptr 0 0 0 0]),(5, .ref 1 i.1 0 i.1),(6,sci .i64 l.length),(7,sci .i64 i.1)], [],2, [(1, .arr 1 i.1 (ir eMs (l.take i.1))),(0,cM (l.drop i.1))]⟩
   | true=>⟨16, [(1, .clo (.func 284) [] [.ptr 0 0 0 0]),(5, .ref 1 i.1 0 i.1),(6,sci .i64 l.length),(7,sci .i64 i.1)], [],3, [(1, .arr 1 i.1 (qav l i0 2 l[i0].length i.1)),(2, .arr 2 0 (ir eII l[i0])),(0,cM (l.drop i.1))]⟩) (λi=>l.length - i.1) (0,false) [] ?_ ?_ ?_
 .simp
 .constructor<;>(try simp(disch:=omega) only[go_sem,simprocAttr,if_pos,if_neg,w64,beqT,beqF,bneT,bneF,qai,qag,decide_eq_true,decide_eq_false,Int.natCast_zero,List.take_zero])
 .rintro⟨i,ph⟩ ⟨h1,h3⟩;simp only at h1 h3;cases ph
  .have hle:i<=i0:=by
    rcases Kl i0 i with q | q
    .have:=h3.2 q;cases this
    .exact q
   have hl':i < l.length:=wa
   have htl:(l.take i).length=i:=by rw[Kb];omega
   have hmm:min i (min i l.length)=i:=wa
   have e:l.drop i=l[i]::l.drop (i+1):=Kg hl';refine zV ?_;(try simp(disch:=omega) only[go_sem,simprocAttr,if_pos,if_neg,w64,beqT,beqF,bneT,bneF,qai,qag,decide_eq_true,decide_eq_false,e]);(refine at_g 200 ?_;refine zW ?_;refine callG_of [0] (qjD l[i] (l.drop (i+1)) (hl _ (Kh hl')) wC) zU ?_);(try simp(disch:=omega) only[go_sem,simprocAttr,if_pos,if_neg,w64,beqT,beqF,bneT,bneF,qai,qag,decide_eq_true,decide_eq_false,eMs,htl]);rcases Kl i i0 with hi | hi
   .refine⟨(i+1,false), [2],⟨hl',⟨(λq=>by cases q),(λq=>by simp only at q;omega)⟩⟩,wc,?_⟩;have e2:l.take (i+1)=l.take i++ [l[i]]:=Kf hl';have e3:(l.take i).take i=l.take i:=by rw[Ki,Km]
    constructor<;>(try simp(disch:=omega) only[go_sem,simprocAttr,if_pos,if_neg,w64,beqT,beqF,bneT,bneF,qai,qag,decide_eq_true,decide_eq_false,e2,e3,eMs,htl,hmm,ir_snoc,Kj,Ka])
   .obtain rfl:i=i0:=wa
    refine⟨(i+1,true), [],⟨hl',wb⟩,wc,?_⟩;have e2:qav l i 2 l[i].length (i+1)=ir eMs (l.take i)++ [[.ref 2 0 0 l[i].length]]:=by
     unfold qav;rw[List.drop_eq_nil_of_le (by rw[Kb];omega)];rfl
    have e3:(l.take i).take i=l.take i:=by rw[Ki,Km]
    constructor<;>(try simp(disch:=omega) only[go_sem,simprocAttr,if_pos,if_neg,w64,beqT,beqF,bneT,bneF,qai,qag,decide_eq_true,decide_eq_false,e2,e3,htl,hmm])
  .have hle:i0 < i:=h3.1 rfl;have hrl:(qav l i0 2 l[i0].length i).length=i:=qoQ hle h1;have hrt:(qav l i0 2 l[i0].length i).take i=qav l i0 2 l[i0].length i:=List.take_of_length_le wa;refine zV ?_;by_cases hl':i < l.length
   .have e:l.drop i=l[i]::l.drop (i+1):=Kg hl';have e2:qav l i0 2 l[i0].length (i+1)=qav l i0 2 l[i0].length i++ [(eMs l[i]).map .p]:=qm8 hle hl';(try simp(disch:=omega) only[go_sem,simprocAttr,if_pos,if_neg,w64,beqT,beqF,bneT,bneF,qai,qag,decide_eq_true,decide_eq_false,e]);(refine at_g 200 ?_;refine zW ?_;refine callG_of [0] (qjD l[i] (l.drop (i+1)) (hl _ (Kh hl')) wC) zU ?_);(try simp(disch:=omega) only[go_sem,simprocAttr,if_pos,if_neg,w64,beqT,beqF,bneT,bneF,qai,qag,decide_eq_true,decide_eq_false,eMs,hrl,hrt]);refine⟨(i+1,true), [3],⟨hl',⟨λ_=>by simp only;omega,λ_=>rfl⟩⟩,wc,?_⟩;constructor<;>(try simp(disch:=omega) only[go_sem,simprocAttr,if_pos,if_neg,w64,beqT,beqF,bneT,bneF,qai,qag,decide_eq_true,decide_eq_false,e2,hrt,hrl,eMs,Kj,Ka])
   .obtain rfl:i=l.length:=wa
    have e:l.drop l.length= []:=List.drop_length;(try simp(disch:=omega) only[go_sem,simprocAttr,if_pos,if_neg,w64,beqT,beqF,bneT,bneF,qai,qag,decide_eq_true,decide_eq_false,e,hrl,hrt]);have er:rnRw (rsel 1 [1,2]) (qav l i0 2 l[i0].length l.length)=qav l i0 2 l[i0].length l.length:=qm7;refine⟨[1,2],wj,rfl,?_⟩;refine⟨⟨rfl,rfl,?_⟩,?_⟩
    .rw[er];exact qaB _
    .exact⟨rfl,rfl,qaB _⟩
def qlZ{l:List (List (Int × Int))}{i0 k i:Nat}:rnRw (rsel 0 [1,2]) (qav l i0 1 k i)=qav l i0 2 k i:=by
 unfold qav;simp only[go_sem];rfl
def ql0{l:List (List (Int × Int))}{i0 k i:Nat}:rnRw (ridx [0] 1) (qav l i0 2 k i)=qav l i0 2 k i:=by
 unfold qav;simp only[go_sem]
def qlP(l:List (List (Int × Int)))(i0:Nat)(h0:i0 < l.length)(hl: ∀x∈l,x.length<=1000000)(hn:l.length<=1000000):
  PG prog 227 [lMs l] [] 2 (.ref 0 l.length 0 l.length)
   [(0, .arr 1 l.length (qav l i0 1 l[i0].length l.length)),(1, .arr 2 0 (ir eII l[i0]))]:=by
 refine zAh func227 0 λhs=>?_;(refine at_g 200 ?_;refine zW ?_;refine callG_of [0] (qot l i0 h0 hl hn) zU ?_);(try simp(disch:=omega) only[go_sem,simprocAttr,if_pos,if_neg,w64,beqT,beqF,bneT,bneF,qai,qag,decide_eq_true,decide_eq_false,ql0]);refine⟨[1,2],wj,rfl,?_⟩;refine⟨⟨rfl,rfl,?_⟩,?_⟩
 .rw[qlZ];exact qaB _
 .exact⟨rfl,rfl,qaB _⟩
def qnK(a:Int)(r:List Int)(hn:r.length<=1000000):PG prog 219 [lI (a::r)] [] 1 (.ref 0 0 0 (r.length+1)) [(0, .arr 1 0 (ir eI (a::r)))]:=by
 have e:pr eI (a::r)=eI a::pr eI r:=rfl;refine zAh func219 0 λhs=>?_;(try simp(disch:=omega) only[go_sem,simprocAttr,if_pos,if_neg,w64,beqT,beqF,bneT,bneF,qai,qag,decide_eq_true,decide_eq_false,e]);refine⟨[0],wj,rfl,?_⟩;exact⟨rfl,rfl,qaB _⟩
def qmi:PG prog 219 [lI []] [] 1 (.ref 0 0 0 0) [(0, .arr 1 0 [])]:=by
 refine zAg func219 0 λhs=>?_;(try simp only[go_sem,simprocAttr,pr,Ka]);refine qdc (sz:=1) (rows:= []) rfl we wh λb hb=>?_;cases b
 .refine vc_sound _ 200 _ _ ?_;refine zV ?_;refine⟨[0],wj,rfl,?_⟩;exact⟨rfl,rfl,qaB _⟩
 .refine vc_sound _ 6 _ _ ?_;refine zV ?_;refine walk_own 2 1 trivial rfl (.inr rfl) ?_;refine vc_sound _ 200 _ _ ?_;refine zV ?_;refine⟨[0],wj,rfl,?_⟩;exact⟨rfl,rfl,qaB _⟩
def qnJ(l:List Int)(hn:l.length<=1000000):PG prog 219 [lI l] [] 1 (.ref 0 0 0 l.length) [(0, .arr 1 0 (ir eI l))]:=by
 cases l with
 | nil=>exact qmi
 | cons a r=>exact qnK a r (by rw[Kc] at hn;omega)
def qp2(x:List Int)(r:List (List Int))(hx:x.length<=1000000)(hr:r.length<=1000000):
  PG prog 286 [.ptr 0 0 0 0] [cL (x::r)] 1 (.ref 1 0 0 x.length) [(1, .arr 1 0 (ir eI x)),(0,cL r)]:=by
 refine zAh func286 1 λhs=>?_;(try simp(disch:=omega) only[go_sem,simprocAttr,if_pos,if_neg,w64,beqT,beqF,bneT,bneF,qai,qag,decide_eq_true,decide_eq_false,eLs]);(refine at_g 200 ?_;refine zW ?_;refine callG_of [] (qnJ x hx) zU ?_);(try simp(disch:=omega) only[go_sem,simprocAttr,if_pos,if_neg,w64,beqT,beqF,bneT,bneF,qai,qag,decide_eq_true,decide_eq_false,eLs,Kk,Ke]);exact⟨[1],wj,rfl,rfl,rfl,qaB _⟩
end Go.Proofs.NO
namespace Go.Idl
variable{P:Program}{h0:IH}
section
variable{Q:Exit->qab->Prop}{k:List It}{all:Array Oper}{r:List Oper}{dst:Option Tmp}{ty:TypeId}{pos:String}{aft:Array Edge}{N:Nat}{s:List (Nat × IV)}{d:List IDef}{nx:Nat}{l:List (Nat × IBlk)}
 {g:Option (Nat × Bool)} {f:Operand} {args:List Operand} {ts:List TypeId} {K:qab->List FP->Prop} {acc:List FP}
theorem at_gr(n)
  (h:qas (qao (ev s) f args) (λq=>(qam all s ⟨dst, .call {callee:= .value f,args:=⟨args⟩,argTypes:=⟨ts⟩},ty,pos,aft,g⟩=some true/\fnOk P q.1=true/\dOk N dst=true)/\
   qdA P q.1 q.2 (look (l++h0.m)) nx λx c W _=>vc P h0 Q n (.ops all r::k) ⟨N,putS dst x s,d,nx+c,W++l⟩) False):
  IRun P h0 (.ops all (⟨dst, .call {callee:= .value f,args:=⟨args⟩,argTypes:=⟨ts⟩},ty,pos,aft,g⟩::r)::k) ⟨N,s,d,nx,l⟩ Q:=by
 cases b:qao (ev s) f args with
 | none=>rw[b] at h;exact h.elim
 | some q=>
   rw[b] at h;obtain⟨⟨j,m,z⟩,a,R,c,x,W,i,p,⟨o,t,u⟩,v⟩:=h;have w:wks q.2 (rnms (ridx i nx) a):=by rw[o];exact wks_refl _
   refine iops_call (S:=⟨N,s,d,nx,l⟩) rfl j b m wq ((qdT (p.icall (hp:=⟨nx,l++h0.m⟩) t u) w).mono ?_);rintro e y A ⟨rfl,rfl,rfl⟩;exact vc_sound Q n _ _ v
end
end Go.Idl
