/- Facts leant on. -/
import Derived.Test.YtfhhdgkhajkapaaGreatNzP2
import Derived.Test.YtfhhdgkhajkapaaGreatGN
import Derived.Test.YtfhhdgkhajkapaaGreatNMe
set_option linter.all false
open True renaming intro->Ka
open Nat renaming le_refl->Kb,succ_lt_succ->Kc,lt_or_ge->Kd
open List renaming getElem?_eq_getElem->Ke
open Int renaming add_sub_cancel->Kf
open Option renaming none->U
/- Pieces put in order: the sort in place. -/
namespace Go.Proofs.NO
open Go Go.Idl Go.Proofs Go.GN Go.Proofs.Tryz
set_option maxHeartbeats 0
set_option maxRecDepth 100000
def cmpI(a b:Int):Int:=if a < b then -1 else if b < a then 1 else 0
def qax(a:Int):Pure prog 178 [sci .i64 a] (scb false):=by
 refine zAa func178 λhs=>?_;(repeat(first | ((refine zW ?_;try with_reducible exact Ka))))
def qfP(a b:Int):Pure prog 100 [sci .i64 a,sci .i64 b] (sci .i64 (cmpI a b)):=by
 refine zAa func100 λhs=>?_;unfold cmpI;by_cases h1:a < b
 ·(repeat(first | ((refine zW ?_;try with_reducible exact Ka)) | (refine zG ?_;refine qaa (qax _) zB ?_;((try refine zW ?_);(try with_reducible exact Ka))) | (refine zF ?_;refine qaa (qax _) zB ?_;((try refine zW ?_);(try with_reducible exact Ka))) | (refine zG ?_;refine qaJ ?_;refine zW ?_;refine qa3 (qax _) wi ?_;((try refine zW ?_);(try with_reducible exact Ka))) | (refine zF ?_;refine qaJ ?_;refine zW ?_;refine qa3 (qax _) wi ?_;((try refine zW ?_);(try with_reducible exact Ka)))));((try refine zO ?_);(try with_reducible exact Ka));(repeat(first | ((refine zW ?_;try with_reducible exact Ka)) | (refine zG ?_;refine qaa (qax _) zB ?_;((try refine zW ?_);(try with_reducible exact Ka))) | (refine zF ?_;refine qaa (qax _) zB ?_;((try refine zW ?_);(try with_reducible exact Ka))) | (refine zG ?_;refine qaJ ?_;refine zW ?_;refine qa3 (qax _) wi ?_;((try refine zW ?_);(try with_reducible exact Ka))) | (refine zF ?_;refine qaJ ?_;refine zW ?_;refine qa3 (qax _) wi ?_;((try refine zW ?_);(try with_reducible exact Ka)))))
 .by_cases h2:b < a
  ·(repeat(first | ((refine zW ?_;try with_reducible exact Ka)) | (refine zG ?_;refine qaa (qax _) zB ?_;((try refine zW ?_);(try with_reducible exact Ka))) | (refine zF ?_;refine qaa (qax _) zB ?_;((try refine zW ?_);(try with_reducible exact Ka))) | (refine zG ?_;refine qaJ ?_;refine zW ?_;refine qa3 (qax _) wi ?_;((try refine zW ?_);(try with_reducible exact Ka))) | (refine zF ?_;refine qaJ ?_;refine zW ?_;refine qa3 (qax _) wi ?_;((try refine zW ?_);(try with_reducible exact Ka)))));((try refine zO ?_);(try with_reducible exact Ka));(repeat(first | ((refine zW ?_;try with_reducible exact Ka)) | (refine zG ?_;refine qaa (qax _) zB ?_;((try refine zW ?_);(try with_reducible exact Ka))) | (refine zF ?_;refine qaa (qax _) zB ?_;((try refine zW ?_);(try with_reducible exact Ka))) | (refine zG ?_;refine qaJ ?_;refine zW ?_;refine qa3 (qax _) wi ?_;((try refine zW ?_);(try with_reducible exact Ka))) | (refine zF ?_;refine qaJ ?_;refine zW ?_;refine qa3 (qax _) wi ?_;((try refine zW ?_);(try with_reducible exact Ka)))))
  ·(repeat(first | ((refine zW ?_;try with_reducible exact Ka)) | (refine zG ?_;refine qaa (qax _) zB ?_;((try refine zW ?_);(try with_reducible exact Ka))) | (refine zF ?_;refine qaa (qax _) zB ?_;((try refine zW ?_);(try with_reducible exact Ka))) | (refine zG ?_;refine qaJ ?_;refine zW ?_;refine qa3 (qax _) wi ?_;((try refine zW ?_);(try with_reducible exact Ka))) | (refine zF ?_;refine qaJ ?_;refine zW ?_;refine qa3 (qax _) wi ?_;((try refine zW ?_);(try with_reducible exact Ka)))));((try refine zO ?_);(try with_reducible exact Ka));(repeat(first | ((refine zW ?_;try with_reducible exact Ka)) | (refine zG ?_;refine qaa (qax _) zB ?_;((try refine zW ?_);(try with_reducible exact Ka))) | (refine zF ?_;refine qaa (qax _) zB ?_;((try refine zW ?_);(try with_reducible exact Ka))) | (refine zG ?_;refine qaJ ?_;refine zW ?_;refine qa3 (qax _) wi ?_;((try refine zW ?_);(try with_reducible exact Ka))) | (refine zF ?_;refine qaJ ?_;refine zW ?_;refine qa3 (qax _) wi ?_;((try refine zW ?_);(try with_reducible exact Ka)))))
def qpl(p q:Pc):Pure prog 299 [lPc p,lPc q] (sci .i64 (cmpI p.node q.node)):=by
 refine zAb func299 λhs=>?_;(refine zG ?_;refine qaa (qfP _ _) zB ?_;exact zT)
abbrev cmpF:IV:= .p (.sc (.func (.func 299) #[] #[]))
def ltP(x y:Pc):Bool:=decide (x.node < y.node)
def qpm(p q:Pc):decide (cmpI p.node q.node < 0)=ltP p q:=by
 unfold cmpI ltP;by_cases h1:p.node < q.node
 .simp[h1]
 .rw[if_neg h1];split<;>simp[h1]
def qdE{α:Type}(lt:α->α->Bool)(a:Nat):Nat->List α->List α
 | 0,l=>l
 | d+1,l=>match l[a+d+1]?,l[a+d]? with
   | some x,some y=>if lt x y then qdE lt a d (swp l (a+d) x y) else l
   | _,_=>l
def insA{α:Type}(lt:α->α->Bool)(a:Nat):Nat->Nat->List α->List α
 | 0,_,l=>l
 | f+1,d,l=>insA lt a f (d+1) (qdE lt a d l)
def qrq{α:Type}{lt:α->α->Bool}{a d:Nat}{M:List α}(hx:a+d+1 < M.length)(hy:a+d < M.length):qdE lt a (d+1) M=if lt M[a+d+1] M[a+d]=true then qdE lt a d (swp M (a+d) M[a+d+1] M[a+d]) else M:=by
 rw[qdE,Ke hx,Ke hy]
@[go_sem] def ir_setP{l:List Pc}{i:Nat}{p:Pc}:(ir ePc l).set i [.p (.sc (.int .i64 p.node)), .p (.sc (.int .i64 p.state)), .p (.sc (.int .i64 p.steps)), .p (.imm 1 (pr eI p.sent)), .p (.imm 1 (pr eMs p.inn)), .p (.imm 1 (pr eLs p.out))]=ir ePc (l.set i p):=qlw (f:=ePc) (a:=p)
abbrev pB(g:Nat)(l:List Pc):IBlk:= .arr 6 g (ir ePc l)
def qiW(g a b:Nat)(l:List Pc)(hab:a<=b)(hb:b<=l.length)(hn:l.length < 1000):
  PG prog 348 [.ref 0 g 0 l.length,sci .i64 (a:Int),sci .i64 (b:Int),cmpF] [pB g l] 0 (.tup []) [(0,pB g (insA ltP a (b - (a+1)) 1 l))]:=by
 generalize hres:insA ltP a (b - (a+1)) 1 l=res;refine zAh func348 1 λhs=>?_;refine walk_loop 200 200 (λp:Nat × List Pc=>a+1<=p.1/\(p.1<=b\/p.1=a+1)/\p.2.length=l.length/\insA ltP a (b - p.1) (p.1 - a) p.2=res)
  (λp=>⟨53, [(0, .ref 0 g 0 l.length),(1,sci .i64 (a:Int)),(2,sci .i64 (b:Int)),(3,cmpF),(8,sci .i64 (p.1:Int))], [],1, [(0,pB g p.2)]⟩) (λp=>b - p.1) (a+1,l) ?_ ?_ ?_
 .refine⟨Kb _, .inr rfl,rfl,?_⟩;rw[show a+1 - a=1 by omega];exact hres
 .exact zc @Int.natCast_one
 .rintro⟨i,L⟩ ⟨i1,i2,i3,i5⟩;simp only at i1 i2 i3 i5;refine zV ?_;by_cases hi:i < b
  .have hi':(i:Int) < (b:Int):=wa
   refine zS hi' ?_;refine walk_loop 200 200 (λp:Nat × List Pc=>a<=p.1/\p.1<=i/\p.2.length=l.length/\qdE ltP a (p.1 - a) p.2=qdE ltP a (i - a) L)
    (λp=>⟨53, [(0, .ref 0 g 0 l.length),(1,sci .i64 (a:Int)),(2,sci .i64 (b:Int)),(3,cmpF),(8,sci .i64 (i:Int)),(9,sci .i64 (p.1:Int))], [],1, [(0,pB g p.2)]⟩) (λp=>p.1) (i,L) ?_ ?_ ?_
   .exact⟨wc,Kb _,i3,rfl⟩
   .constructor<;>exact zU
   .rintro⟨j,M⟩ ⟨j0,j1,j2,j4⟩;simp only at j0 j1 j2 j4;refine zV ?_;(refine zM [0,1,2,3,8,9] ?_;refine zI [U,U,U,U,U,U,U,U,U,U,U,U,U,U,some [],U,U] ?_);by_cases hja:j=a
    .subst hja;refine zP ?_;have e0:M=qdE ltP j (i - j) L:=by rw[<-j4,Nat.sub_self];rfl
     refine⟨(i+1,M),⟨wc, .inl wc,j2,?_⟩,wc,?_⟩
     .rw[show b - i=(b - (i+1))+1 by omega] at i5;simp only;rw[e0,show i+1 - j=(i - j)+1 by omega];exact i5
     .constructor<;>exact zU
    .obtain⟨j,rfl⟩: ∃k,j=k+1:=⟨j - 1,wa⟩;have hx:j+1 < M.length:=wa
     have hy:j < M.length:=wa
     have hgt:(a:Int) < (j:Int)+1:=wa
     have tn:((j:Int)+1).toNat=j+1:=rfl;have hsx:a+(j - a)+1 < M.length:=wa
     have hsy:a+(j - a) < M.length:=wa
     have e1:=qrq (lt:=ltP) hsx hsy;simp only[show a+(j - a)=j by omega] at e1;rw[show j - a+1=j+1 - a by omega,j4] at e1;(try simp(maxSteps:=2000000) (disch:=omega) only[go_sem,simprocAttr,zD,zE,hgt,tn,Kf,ePc]);refine zX (qpl M[j+1] M[j]) ?_;by_cases hc:ltP M[j+1] M[j]=true
     .have hc3:decide (cmpI M[j+1].node M[j].node < 0)=true:=by rw[qpm];exact hc
      rw[if_pos hc] at e1;refine zS hc3 ?_;(refine zM [0,1,2,3,8,9] ?_;refine zI [U,U,U,U,U,U,U,U,U,U,U,U,U,U,U,some [2,3,4],U,some []] ?_);have e2:(ir ePc (M.set (j+1) M[j]))[j]? =some ((ePc M[j]).map .p):=qiX (by rw[List.getElem?_set_ne wa,Ke hy]);(try simp(maxSteps:=2000000) (disch:=omega) only[go_sem,simprocAttr,zD,zE,ePc,tn,Kf,e2]);refine⟨(j,swp M j M[j+1] M[j]),⟨wc,wc,by rw[qi6];exact j2,e1.symm⟩,wb,?_⟩;constructor<;>(try simp(maxSteps:=2000000) (disch:=omega) only[go_sem,simprocAttr,zD,zE,swp,Kf])
     .have hc3:decide (cmpI M[j+1].node M[j].node < 0)=false:=by rw[qpm];simpa using hc
      rw[if_neg hc] at e1;refine zS hc3 ?_;refine⟨(i+1,M),⟨wc, .inl wc,j2,?_⟩,wc,?_⟩
      .rw[show b - i=(b - (i+1))+1 by omega] at i5;simp only;rw[<-e1,show i+1 - a=(i - a)+1 by omega];exact i5
      .constructor<;>exact zU
  .have hi': ¬((i:Int) < (b:Int)):=wa
   refine zS hi' ?_;rw[show b - i=0 by omega] at i5;have e0:L=res:=i5;rw[e0];exact zT
def mid_of{i j:Nat}(h:i+j < 100000):IntKind.i64.wrap ((IntKind.u64.wrap ((i:Int)+(j:Int))).fdiv (2 ^ min 1 64))=(((i+j) / 2:Nat):Int):=by
 have e1:IntKind.u64.wrap ((i:Int)+(j:Int))=((i+j:Nat):Int):=by rw[IntKind.wrap_u64];omega
 have e2:(2:Int) ^ min 1 64=2:=wh
 rw[e1,e2,Int.fdiv_eq_ediv_of_nonneg _ wh,IntKind.wrap_i64];omega
end Go.Proofs.NO
/- Where a message belongs: a search by halves. -/
namespace Go.Proofs.NO
open Go Go.Idl Go.Proofs Go.GP Go.Proofs.Tryz
set_option maxHeartbeats 0
set_option maxRecDepth 100000
def qjd(x:Int × Int)(q:Int):Pure prog 99 [.agg [sci .i64 x.1,sci .i64 x.2],sci .i64 q] (sci .i64 (cmpI x.1 q)):=by
 refine zAb func99 λhs=>?_;(refine zG ?_;refine qaa (qfP _ _) zB ?_;exact zT)
abbrev cmpFH:IV:= .p (.sc (.func (.func 99) #[] #[]))
def posL(q:Int):List (Int × Int)->Nat
 | []=>0
 | x::r=>if x.1 < q then posL q r+1 else 0
def qp4(q:Int): ∀(l:List (Int × Int)) (i:Nat) (hi:i<=l.length),(∀(k:Nat) (h:k < l.length),k < i->l[k].1 < q)->(∀h:i < l.length,¬l[i].1 < q)->posL q l=i
 | [],i,hi,_,_=>by simp at hi;rw[hi];rfl
 | x::r,0,_,_,h2=>by unfold posL;rw[if_neg (show ¬x.1 < q from h2 wb)]
 | x::r,i+1,hi,h1,h2=>by
   unfold posL;rw[if_pos (show x.1 < q from h1 0 wb wa),qp4 q r i (by simpa using hi) (λk h hk=>h1 (k+1) (Kc h) wa) (λh=>h2 (Kc h))]
def UpH(l:List (Int × Int)):Prop:= ∀(a b:Nat) (hb:b < l.length) (hab:a < b),l[a].1 < l[b].1
def qrG(l:List (Int × Int))(q:Int)(hu:UpH l)(hn:l.length<=1000):Pure prog 98 [lII l,sci .i64 q,cmpFH]
  (.tup [sci .i64 (posL q l),scb (tB (∃x,l[posL q l]? =some x/\x.1=q))]):=by
 refine zAb func98 λhs=>?_;refine walk_loop 200 200 (λp:Nat × Nat=>(p.1<=p.2/\p.2<=l.length)/\(∀(k:Nat) (h:k < l.length),k < p.1->l[k].1 < q)/\(∀(k:Nat) (h:k < l.length),p.2<=k-> ¬l[k].1 < q))
  (λp=>⟨49, [(0,lII l),(1,sci .i64 q),(2,cmpFH),(8,sci .i64 l.length),(9,sci .i64 (p.1:Int)),(10,sci .i64 (p.2:Int))], [],0, []⟩) (λp=>p.2 - p.1) (0,l.length) ?_ ?_ ?_
 .exact⟨⟨Nat.zero_le _,Kb _⟩,λk h hk=>by simp at hk,λk h hk=>by simp only at hk;omega⟩
 .exact zc @Int.natCast_zero
 .rintro⟨i,j⟩ ⟨⟨i1,i2⟩,i3,i4⟩;simp only at i1 i2 i3 i4;refine zV ?_;by_cases hij:i < j
  .have hij':(i:Int) < (j:Int):=wa
   refine zS hij' ?_;obtain⟨h,hmh,h1,h2⟩: ∃h:Nat,IntKind.i64.wrap ((IntKind.u64.wrap ((i:Int)+(j:Int))).fdiv (2 ^ min 1 64))=(h:Int)/\i<=h/\h < j:=⟨(i+j) / 2,mid_of wa,wa,wa⟩;have hl:h < l.length:=wa
   have lo: ∀(k:Nat) (hk:k < l.length),k < h->l[k].1 < l[h].1:=λk hk q=>hu k h hl q
   have hi: ∀(k:Nat) (hk:k < l.length),h < k->l[h].1 < l[k].1:=λk hk q=>hu h k hk q
   (try simp(disch:=omega) only[go_sem,simprocAttr,zD,zE,hmh,eII]);generalize hx:l[h]=x at *;obtain⟨sq,lt⟩:=x;(refine zG ?_;refine qaa (qjd (sq,lt) q) zB ?_;refine zV ?_);by_cases hc:sq < q
   .have ec:cmpI sq q= -1:=by unfold cmpI;rw[if_pos hc]
    refine zS ec ?_;refine⟨(h+1,j),⟨⟨wa,i2⟩,λk hk kk=>?_,i4⟩,wc,?_⟩
    .rcases Kd k h with g | g
     .have:=lo k hk g;simp only at this;omega
     .obtain rfl:k=h:=by simp only at kk;omega
      rw[hx];exact hc
    .constructor<;>exact zU
   .have ec: ¬cmpI sq q < 0:=by unfold cmpI;rw[if_neg hc];split<;>omega
    refine zS ec ?_;refine⟨(i,h),⟨⟨h1,wc⟩,i3,λk hk kk=>?_⟩,wc,?_⟩
    .rcases Kd h k with g | g
     .have:=hi k hk g;simp only at this;omega
     .obtain rfl:k=h:=by simp only at kk;omega
      rw[hx];exact hc
    .constructor<;>exact zU
  .obtain rfl:j=i:=wa
   have hp:posL q l=j:=qp4 q l j i2 i3 λh=>i4 j h (Kb _)
   rw[hp];by_cases hj:j < l.length
   .have ge:=i4 j hj (Kb _);have eg:l[j]? =some l[j]:=Ke hj;(try simp(disch:=omega) only[go_sem,simprocAttr,zD,zE,eII]);generalize l[j]=x at *;obtain⟨sq,lt⟩:=x;(refine zG ?_;refine qaa (qjd (sq,lt) q) zB ?_;refine zV ?_);by_cases hc:sq=q
    .have ec:cmpI sq q=0:=by unfold cmpI;simp only at ge;rw[if_neg ge,if_neg wa]
     have e:tB (∃x,l[j]? =some x/\x.1=q)=true:=qap ⟨_,eg,hc⟩;exact zy (zQ ec e)
    .have ec:cmpI sq q=1:=by unfold cmpI;simp only at ge;rw[if_neg ge,if_pos wa]
     have e:tB (∃x,l[j]? =some x/\x.1=q)=false:=qah λ⟨x,h1,h2⟩=>by rw[eg] at h1;cases h1;exact hc h2
     exact zy (zQ ec e)
   .have e:tB (∃x,l[j]? =some x/\x.1=q)=false:=qah λ⟨x,h1,h2⟩=>by rw[List.getElem?_eq_none wa] at h1;cases h1
    exact zy e
end Go.Proofs.NO
