/- Facts leant on. -/
import Derived.Test.YtfhhdgkhajkapaaGreatNPB
import Derived.Test.YtfhhdgkhajkapaaGreatIdRb
set_option linter.all false
open List renaming take_succ_eq_append_getElem->Ka,take_length->Kb,getElem?_toArray->Kc,getElem?_eq_getElem->Kd,map_nil->Ke,nil_append->Kf,mem_append_left->Kg,mem_append_right->Kh,mem_of_getElem?->Ki,filter_cons->Kj
open True renaming intro->Kk
open Int renaming natCast_zero->Kl
open Bool renaming not_eq_true->Km,and_eq_true->Kn
open Nat renaming zero_lt_succ->Ko,not_lt_zero->Kp,lt_of_lt_of_le->Kq,zero_add->Kr
open Option renaming none->U,some->V
open Bool renaming true->Y,false->Z
/- Pieces compared, handed on, cut: many. -/
namespace Go.Proofs.NO
open Go Go.Idl Go.Proofs Go.Proofs.Tryz
set_option maxHeartbeats 0
set_option maxRecDepth 100000
def qcc(p q:Pc):Bool:=p.node==q.node && p.state==q.state && p.steps==q.steps && p.sent==q.sent && p.inn==q.inn && p.out==q.out
def qdv{p q:Pc}:qcc p q=Y↔p=q:=by
 unfold qcc;simp only[Kn,beq_iff_eq];constructor
 .rintro⟨⟨⟨⟨⟨h1,h2⟩,h3⟩,h4⟩,h5⟩,h6⟩;cases p;cases q;simp_all
 .rintro rfl;simp
def Same_spec(p q:Pc):Pure prog 87 [lPc p,lPc q] (scb (qcc p q)):=by
 generalize hres:qcc p q=res;obtain⟨n1,s1,t1,se1,i1,o1⟩:=p;obtain⟨n2,s2,t2,se2,i2,o2⟩:=q;unfold qcc at hres;simp only at hres;refine pcall0 200 (fn:=f87) func87 rfl (by simp[ntmps87]) zB zB λhs=>?_;simp(maxSteps:=2000000) only[go_sem,simprocAttr,maxLen] at hs;refine zV ?_;by_cases h1:n1=n2
 ·(try simp(maxSteps:=2000000) (disch:=omega) only[go_sem,simprocAttr,if_pos,if_neg,w64,beqT,beqF,bneT,bneF,qag,qaf,decide_eq_true,decide_eq_false,h1]);by_cases h2:s1=s2
  ·(try simp(maxSteps:=2000000) (disch:=omega) only[go_sem,simprocAttr,if_pos,if_neg,w64,beqT,beqF,bneT,bneF,qag,qaf,decide_eq_true,decide_eq_false,h2]);by_cases h3:t1=t2
   ·(try simp(maxSteps:=2000000) (disch:=omega) only[go_sem,simprocAttr,if_pos,if_neg,w64,beqT,beqF,bneT,bneF,qag,qaf,decide_eq_true,decide_eq_false,h3]);(refine zG ?_;refine qaa (qdd _ _) zB ?_;refine zV ?_);cases h4:se1==se2 with
    | false=>
      (try simp(maxSteps:=2000000) (disch:=omega) only[go_sem,simprocAttr,if_pos,if_neg,w64,beqT,beqF,bneT,bneF,qag,qaf,decide_eq_true,decide_eq_false,h4]);rw[h4] at hres;rw[<-hres];simp
    | true=>
      (try simp(maxSteps:=2000000) (disch:=omega) only[go_sem,simprocAttr,if_pos,if_neg,w64,beqT,beqF,bneT,bneF,qag,qaf,decide_eq_true,decide_eq_false,h4]);by_cases h5:i1.length=i2.length
      ·(try simp(maxSteps:=2000000) (disch:=omega) only[go_sem,simprocAttr,if_pos,if_neg,w64,beqT,beqF,bneT,bneF,qag,qaf,decide_eq_true,decide_eq_false,h5]);by_cases h6:o1.length=o2.length
       ·(try simp(maxSteps:=2000000) (disch:=omega) only[go_sem,simprocAttr,if_pos,if_neg,w64,beqT,beqF,bneT,bneF,qag,qaf,decide_eq_true,decide_eq_false,h6]);have hr:(i1==i2 && o1==o2)=res:=by rw[<-hres,h1,h2,h3,h4];simp
        clear hres;(refine walk_trim [2,3,5] trivial zL ?_;((try refine zW ?_);(try with_reducible exact Kk)));refine walk_loop 200 200 (λi:Nat=>i<=i1.length/\i1.take i=i2.take i) (λi=>⟨90, [(2, .ptr 0 0 0 0),(3, .ptr 1 0 0 0),(5,sci .i64 i)], [],2,
         [(1, .arr 6 0 [[sci .i64 n2,sci .i64 s2,sci .i64 t2,lI se2,lMs i2,lLs o2]]),(0, .arr 6 0 [[sci .i64 n2,sci .i64 s2,sci .i64 t2,lI se1,lMs i1,lLs o1]])]⟩) (λi=>i1.length - i) 0 ?_ ?_ ?_
        .simp
        .constructor<;>(try simp(maxSteps:=2000000) (disch:=omega) only[go_sem,simprocAttr,if_pos,if_neg,w64,beqT,beqF,bneT,bneF,qag,qaf,decide_eq_true,decide_eq_false,Kl,h1,h2,h3])
        .rintro i ⟨hi,he⟩;refine zV ?_;by_cases hb:i < i1.length
         .refine zP ?_;(refine zM [2,3,5] ?_;refine zI [U,U,U,U,U,U,U,U,U,U,V [],U] ?_);(try simp(maxSteps:=2000000) (disch:=omega) only[go_sem,simprocAttr,if_pos,if_neg,w64,beqT,beqF,bneT,bneF,qag,qaf,decide_eq_true,decide_eq_false,eMs]);(refine zF ?_;refine qaa (Msgs_spec _ _) zB ?_;refine zV ?_);by_cases hc:i1[i]=i2[i]
          ·(try simp(maxSteps:=2000000) (disch:=omega) only[go_sem,simprocAttr,if_pos,if_neg,w64,beqT,beqF,bneT,bneF,qag,qaf,decide_eq_true,decide_eq_false,hc]);refine⟨i+1,⟨hb,?_⟩,wa,?_⟩
           .rw[Ka hb,Ka wa,he,hc]
           .constructor<;>((try refine zW ?_);(try with_reducible exact Kk))
          .have hc2:(i1[i]==i2[i])=Z:=wG
           (try simp(maxSteps:=2000000) (disch:=omega) only[go_sem,simprocAttr,if_pos,if_neg,w64,beqT,beqF,bneT,bneF,qag,qaf,decide_eq_true,decide_eq_false,hc2]);rw[<-hr];symm;rw[Bool.and_eq_false_iff];left;rw[beq_eq_false_iff_ne];rintro rfl;exact hc rfl
         .have hi2:i=i1.length:=wa
          subst hi2;rw[Kb,h5,Kb] at he;subst he;have hr2:(o1==o2)=res:=by rw[<-hr];simp
          refine zP ?_;(refine walk_trim [2,3,6] trivial zL ?_;((try refine zW ?_);(try with_reducible exact Kk)));refine walk_loop 200 200 (λj:Nat=>j<=o1.length/\o1.take j=o2.take j) (λj=>⟨90, [(2, .ptr 0 0 0 0),(3, .ptr 1 0 0 0),(6,sci .i64 j)], [],2,
           [(1, .arr 6 0 [[sci .i64 n2,sci .i64 s2,sci .i64 t2,lI se2,lMs i1,lLs o2]]),(0, .arr 6 0 [[sci .i64 n2,sci .i64 s2,sci .i64 t2,lI se1,lMs i1,lLs o1]])]⟩) (λj=>o1.length - j) 0 ?_ ?_ ?_
          .simp
          .constructor<;>(try simp(maxSteps:=2000000) (disch:=omega) only[go_sem,simprocAttr,if_pos,if_neg,w64,beqT,beqF,bneT,bneF,qag,qaf,decide_eq_true,decide_eq_false,Kl])
          .rintro j ⟨hj,hf⟩;refine zV ?_;by_cases hb2:j < o1.length
           .refine zP ?_;(refine zM [2,3,6] ?_;refine zI [U,U,U,U,U,U,U,U,U,U,V [],U] ?_);(try simp(maxSteps:=2000000) (disch:=omega) only[go_sem,simprocAttr,if_pos,if_neg,w64,beqT,beqF,bneT,bneF,qag,qaf,decide_eq_true,decide_eq_false,eLs]);(refine zF ?_;refine qaa (qdd _ _) zB ?_;refine zV ?_);by_cases hc:o1[j]=o2[j]
            ·(try simp(maxSteps:=2000000) (disch:=omega) only[go_sem,simprocAttr,if_pos,if_neg,w64,beqT,beqF,bneT,bneF,qag,qaf,decide_eq_true,decide_eq_false,hc]);refine⟨j+1,⟨hb2,?_⟩,wa,?_⟩
             .rw[Ka hb2,Ka wa,hf,hc]
             .constructor<;>((try refine zW ?_);(try with_reducible exact Kk))
            .have hc2:(o1[j]==o2[j])=Z:=wG
             (try simp(maxSteps:=2000000) (disch:=omega) only[go_sem,simprocAttr,if_pos,if_neg,w64,beqT,beqF,bneT,bneF,qag,qaf,decide_eq_true,decide_eq_false,hc2]);rw[<-hr2];symm;rw[beq_eq_false_iff_ne];rintro rfl;exact hc rfl
           .have hj2:j=o1.length:=wa
            subst hj2;rw[Kb,h6,Kb] at hf;subst hf;refine zP ?_;rw[<-hr2];simp
       ·(try simp(maxSteps:=2000000) (disch:=omega) only[go_sem,simprocAttr,if_pos,if_neg,w64,beqT,beqF,bneT,bneF,qag,qaf,decide_eq_true,decide_eq_false,h6]);rw[<-hres];symm;have:(o1==o2)=Z:=by rw[beq_eq_false_iff_ne];rintro rfl;exact h6 rfl
        rw[this];simp
      ·(try simp(maxSteps:=2000000) (disch:=omega) only[go_sem,simprocAttr,if_pos,if_neg,w64,beqT,beqF,bneT,bneF,qag,qaf,decide_eq_true,decide_eq_false,h5]);rw[<-hres];symm;have:(i1==i2)=Z:=by rw[beq_eq_false_iff_ne];rintro rfl;exact h5 rfl
       rw[this];simp
   ·(try simp(maxSteps:=2000000) (disch:=omega) only[go_sem,simprocAttr,if_pos,if_neg,w64,beqT,beqF,bneT,bneF,qag,qaf,decide_eq_true,decide_eq_false,h3]);rw[<-hres];symm;have:(t1==t2)=Z:=by rw[beq_eq_false_iff_ne];exact h3
    rw[this];simp
  ·(try simp(maxSteps:=2000000) (disch:=omega) only[go_sem,simprocAttr,if_pos,if_neg,w64,beqT,beqF,bneT,bneF,qag,qaf,decide_eq_true,decide_eq_false,h2]);rw[<-hres];symm;have:(s1==s2)=Z:=by rw[beq_eq_false_iff_ne];exact h2
   rw[this];simp
 ·(try simp(maxSteps:=2000000) (disch:=omega) only[go_sem,simprocAttr,if_pos,if_neg,w64,beqT,beqF,bneT,bneF,qag,qaf,decide_eq_true,decide_eq_false,h1]);rw[<-hres];symm;have:(n1==n2)=Z:=by rw[beq_eq_false_iff_ne];exact h1
  rw[this];simp
def qbU:List Pc->List Pc->Bool
 | [], []=>Y
 | p::r,q::s=>qcc p q && qbU r s
 | _,_=>Z
def qbg: ∀ {a b:List Pc},qbU a b=Y↔a=b
 | [], []=>by simp[qbU]
 | p::r,q::s=>by simp[qbU,qdv,qbg (a:=r) (b:=s)]
 | [],_::_=>by simp[qbU]
 | _::_, []=>by simp[qbU]
def qib(a b:List Pc):Pure prog 117 [lPs a,lPs b] (scb (qbU a b)):=by
 generalize hres:qbU a b=res;refine pcall0 200 (fn:=f117) func117 rfl (by simp[ntmps117]) zB zB λhs=>?_;simp only[go_sem,simprocAttr,maxLen] at hs;obtain⟨⟨ha, -⟩,hb, -⟩:=hs;refine zV ?_;by_cases hn:a.length=b.length
 ·(try simp(disch:=omega) only[go_sem,simprocAttr,if_pos,if_neg,w64,beqT,beqF,bneT,bneF,qag,qaf,decide_eq_true,decide_eq_false,hn]);refine walk_loop 200 200 (λi:Nat=>i<=a.length/\a.take i=b.take i) (λi=>⟨27, [(0,lPs a),(1,lPs b),(5,sci .i64 i)], [],0, []⟩) (λi=>a.length - i) 0 ?_ ?_ ?_
  .simp
  .constructor<;>(try simp only[go_sem,simprocAttr,Kl])
  .rintro i ⟨hi,he⟩;refine zV ?_;by_cases hb:i < a.length
   .refine zP ?_;(refine zM [0,1,5] ?_;refine zI [U,U,U,U,U,U,U,U,V [],U] ?_);(try simp(disch:=omega) only[go_sem,simprocAttr,if_pos,if_neg,w64,beqT,beqF,bneT,bneF,qag,qaf,decide_eq_true,decide_eq_false,ePc]);(refine zF ?_;refine qaa (Same_spec a[i] b[i]) zB ?_;refine zV ?_);by_cases hc:a[i]=b[i]
    .have hc2:qcc a[i] b[i]=Y:=qdv.2 hc;(try simp(disch:=omega) only[go_sem,simprocAttr,if_pos,if_neg,w64,beqT,beqF,bneT,bneF,qag,qaf,decide_eq_true,decide_eq_false,hc2]);refine⟨i+1,⟨hb,?_⟩,wa,?_⟩
     .rw[Ka hb,Ka wa,he,hc]
     .constructor<;>((try refine zW ?_);(try with_reducible exact Kk))
    .have hc2:qcc a[i] b[i]=Z:=by rw[<-Km];exact λh=>hc (qdv.1 h)
     (try simp(disch:=omega) only[go_sem,simprocAttr,if_pos,if_neg,w64,beqT,beqF,bneT,bneF,qag,qaf,decide_eq_true,decide_eq_false,hc2]);rw[<-hres];symm;rw[<-Km,qbg];rintro rfl;exact hc rfl
   .refine zP ?_;obtain rfl:i=a.length:=wa
    rw[Kb,hn,Kb] at he;rw[<-hres];exact(qbg.2 he).symm
 ·(try simp(disch:=omega) only[go_sem,simprocAttr,if_pos,if_neg,w64,beqT,beqF,bneT,bneF,qag,qaf,decide_eq_true,decide_eq_false,hn]);rw[<-hres];symm;rw[<-Km,qbg];rintro rfl;exact hn rfl
def Refs_spec(l:List Pc)(hn:l.length<=1000):Pure prog 114 [lPs l] (lPs l):=by
 refine pcall0 200 (fn:=f114) func114 rfl (by simp[ntmps114]) zB zB λhs=>?_;refine zV ?_;refine walk_own 3 6 trivial rfl (.inl rfl) ?_;(refine walk_trim [0,3,4] trivial zL ?_;((try refine zW ?_);(try with_reducible exact Kk)));refine qac 200 200 (λi:Nat × Nat × List Pc=>i.1<=l.length/\i.2.2=l.take i.1)
  (λi=>⟨21, [(0,lPs l),(3, .ref 0 i.2.1 0 i.2.2.length),(4,sci .i64 i.1)], [],1, [(0, .arr 6 i.2.1 (ir ePc i.2.2))]⟩) (λi=>l.length - i.1) (0,0, []) [] ?_ ?_ ?_
 .simp
 .constructor<;>(try simp(disch:=omega) only[go_sem,simprocAttr,if_pos,if_neg,w64,beqT,beqF,bneT,bneF,qag,qaf,decide_eq_true,decide_eq_false,Kl])
 .rintro⟨i,g,acc⟩ ⟨h1,h3⟩;simp only at h1 h3;have hal:acc.length=i:=wP
  refine zV ?_;by_cases hl:i < l.length
  ·(try simp(disch:=omega) only[go_sem,simprocAttr,if_pos,if_neg,w64,beqT,beqF,bneT,bneF,qag,qaf,decide_eq_true,decide_eq_false,ePc]);(refine zG ?_;refine qaa (qfC l[i]) zB ?_);(try simp(disch:=omega) only[go_sem,simprocAttr,if_pos,if_neg,w64,beqT,beqF,bneT,bneF,qag,qaf,decide_eq_true,decide_eq_false,ePc]);refine⟨(i+1,g+1,acc++ [l[i]]), [],⟨hl,?_⟩,?_,?_⟩
   .simp only[h3];rw[Ka hl]
   .simp only;omega
   .constructor<;>(try simp(disch:=omega) only[go_sem,simprocAttr,if_pos,if_neg,w64,beqT,beqF,bneT,bneF,qag,qaf,decide_eq_true,decide_eq_false,ePc,ir_snoc,List.map_cons,Ke])
  .rw[List.take_of_length_le wa] at h3;(try simp(disch:=omega) only[go_sem,simprocAttr,if_pos,if_neg,w64,beqT,beqF,bneT,bneF,qag,qaf,decide_eq_true,decide_eq_false,h3])
end Go.Proofs.NO
namespace Go.Idl
variable{P:Program}{h0:IH}{B:Nat->Prop}
def qfD(P:Program)(h0:IH)(B:Nat->Prop)(Q:Exit->qab->Prop)(a:Array Oper)(o:Oper)(S:qab):Prop:=
 ∃f args t q,o.op= .call {callee:= .value f,args:=⟨args⟩,argTypes:=⟨t⟩}/\qap (ev S.s) f args=V q/\qao a S.s o=V Y/\fnOk P q.1=Y/\
  qfd P q.1 (qbA P t q.2) (look (S.l++h0.m)) S.nx λc W=> ∀n,S.nx<=n->B n->Q (.panic c) ⟨S.n, [],S.d,n,W++S.l⟩
inductive qa4(P:Program)(h0:IH)(B:Nat->Prop)(Q:Exit->qab->Prop)(all:Array Oper):List Nat->List Oper->qab->List FR->qab->Prop where
 | nil (S:qab):qa4 P h0 B Q all [] [] S [] S
 | live {n:Nat} {fl:List Nat} {o:Oper} {r:List Oper} {S S1 S':qab} {fr:FR} {frs:List FR} (hn:n≠1/\n≠2) (h1:qaK P h0 all [o] S [fr] S1) (h:qa4 P h0 B Q all fl r S1 frs S'):
   qa4 P h0 B Q all (n::fl) (o::r) S (fr::frs) S'
 | dead {n:Nat} {fl:List Nat} {o:Oper} {r:List Oper} {S S':qab} {frs:List FR} (hn:n=1\/n=2) (hp:n=2->qfD P h0 B Q all o S) (hd:dOk S.n o.dst=Y)
   (h:qa4 P h0 B Q all fl r ⟨S.n,putS o.dst .dead S.s,S.d,S.nx,S.l⟩ frs S'):qa4 P h0 B Q all (n::fl) (o::r) S ({x:= .dead}::frs) S'
section
variable{Q:Exit->qab->Prop}{all:Array Oper}{fl:List Nat}{ops:List Oper}{S S':qab}{frs:List FR}
def qaK.one{o fr a}(h:qaK P h0 all [o] S [fr] a):
  a=⟨S.n,putS o.dst fr.x S.s,S.d,S.nx+fr.F.length,fr.W.reverse++S.l⟩/\qmu P h0 all S a o fr S.s S.l/\(∀b∈fr.F,S.nx<=b/\b < a.nx):=by
 obtain⟨f,d,c⟩:=h.at 0 o rfl;cases d;refine⟨?_,c,c.range⟩;cases h with
 | op e i j g h=>cases h;rfl
 | skip e g h=>cases h;simp
def qa4.nx(h:qa4 P h0 B Q all fl ops S frs S'):S.nx<=S'.nx:=by
 induction h with
 | nil S=>simp
 | live a b h i=>exact Nat.le_trans b.nx i
 | dead a c d h i=>omega
def qa4.length(h:qa4 P h0 B Q all fl ops S frs S'):frs.length=ops.length/\fl.length=ops.length:=by induction h<;>simp_all
def qa4.fresh(h:qa4 P h0 B Q all fl ops S frs S'):
  (∀(i:Nat) (f:FR),frs[i]? =V f-> ∀b∈f.F,S.nx<=b/\b < S'.nx)/\ ∀(i j:Nat) (f g:FR),i < j->frs[i]? =V f->frs[j]? =V g-> ∀b∈f.F,∀k∈g.F,b < k:=by
 induction h with
 | nil S=>simp
 | live t r h n=>
   obtain⟨l,o⟩:=n;obtain⟨e,w,s⟩:=r.one;have u:=h.nx;have v:=r.nx;refine⟨λi f a b c=>?_,λi j f g p a m b c k d=>?_⟩
   .cases i with
    | zero=>simp at a;subst a;have:=s b c;omega
    | succ i=>have:=l i f wK b c;omega
   .obtain⟨j,rfl⟩: ∃q,j=q+1:=⟨j - 1,wa⟩;cases i with
    | zero=>simp at a;subst a;have:=s b c;have:=l j g (by simpa using m) k d;omega
    | succ i=>exact o i j f g wa wK (by simpa using m) b c k d
 | dead t x y h n=>
   obtain⟨l,o⟩:=n;refine⟨λi f a b c=>?_,λi j f g p a m b c k d=>?_⟩
   .cases i with
    | zero=>simp at a;subst a;simp at c
    | succ i=>exact l i f wK b c
   .obtain⟨j,rfl⟩: ∃q,j=q+1:=⟨j - 1,wa⟩;cases i with
    | zero=>simp at a;subst a;simp at c
    | succ i=>exact o i j f g wa wK (by simpa using m) b c k d
def qa4.at(h:qa4 P h0 B Q all fl ops S frs S'): ∀(i:Nat) (o:Oper) (n:Nat),ops[i]? =V o->fl[i]? =V n->n≠1->n≠2->
  ∃fr,frs[i]? =V fr/\qmu P h0 all S S' o fr (selS ops frs (λk=>decide (k < i)) S.s) (selL frs (λk=>decide (k < i)) S.l):=by
 induction h with
 | nil S=>simp
 | @live w fl o r S z S' fr frs t u h m=>
   intro i p n a c j l;obtain⟨e,d,A⟩:=u.one;have x:=h.nx;have y:=u.nx;cases i with
   | zero=>
     simp at a;subst a;refine⟨fr,rfl,?_⟩;simp only[Kp,decide_false,qcf,qcH];exact⟨d.dst,d.does,d.reads,d.new,λb q=>wg⟩
   | succ i=>
     obtain⟨f,s,g⟩:=m i p n wK (by simpa using c) j l;refine⟨f,by simpa using s,?_⟩;simp only[selS,selL,sel_pre,Ko,decide_true,if_true];subst e;exact⟨g.dst,g.does,g.reads,g.new,λb q=>(by have:=g.range b q;omega)⟩
 | @dead w fl o r S S' frs t C D h m=>
   intro i p n a c j l;cases i with
   | zero=>
     simp_all
   | succ i=>
     obtain⟨f,s,g⟩:=m i p n wK wn j l;refine⟨f,wn,?_⟩;simp only[selS,selL,sel_pre,Ko,decide_true,if_true,List.reverse_nil,Kf];exact⟨g.dst,g.does,g.reads,g.new,g.range⟩
def qa4.pan(h:qa4 P h0 B Q all fl ops S frs S'): ∀(i:Nat) (o:Oper),ops[i]? =V o->fl[i]? =V 2->
  ∃nx,nx<=S'.nx/\qfD P h0 B Q all o ⟨S.n,selS ops frs (λk=>decide (k < i)) S.s,S.d,nx,selL frs (λk=>decide (k < i)) S.l⟩:=by
 induction h with
 | nil S=>simp
 | @live n fl o r S s S' t frs l p h c=>
   intro i d a b;obtain⟨e,u,v⟩:=p.one;cases i with
   | zero=>grind
   | succ i=>
     obtain⟨nx,g,f⟩:=c i d wK (by simpa using b);refine⟨nx,g,?_⟩;simp only[selS,selL,sel_pre,Ko,decide_true,if_true];subst e;omega
 | @dead n fl o r S S' frs l q w h c=>
   intro i d a b;have j:=h.nx;cases i with
   | zero=>
     simp at b a;subst b a;refine⟨S.nx,j,?_⟩;simp only[Kp,decide_false,qcf,qcH];exact q rfl
   | succ i=>
     simp_all[selS,selL,sel_pre,if_true,Kf]
end
def flGo(m:List Nat)(j:Nat):Nat->List Nat->Bool
 | _, []=>Y
 | i,n::r=>(match n with
   | 0=>Y
   | 1=>((m[i]?).getD 0).testBit j
   | 2=>i==j
   | _=>((m[j]?).getD 0).testBit i) && flGo m j (i+1) r
def qgQ{a j}: ∀ {l i},flGo a j i l=Y-> ∀(k n),l[k]? =V n->
  (n=1->((a[i+k]?).getD 0).testBit j=Y)/\(n=2->i+k=j)/\(3<=n->((a[j]?).getD 0).testBit (i+k)=Y)
 | [],i,_,k,n,h=>by grind
 | m::l,i,h,k,n,b=>by
   simp[flGo] at h;cases k with
   | zero=>
     grind
   | succ k=>
     have:=qgQ h.2 k n wg
     grind
def wchk:List Nat->List FP->Prop
 | n::fl,f::r=>(if 3<=n then True else f.2= [])/\wchk fl r
 | _,_=>True
def qkR: ∀ {fl r},wchk fl r-> ∀(i n:Nat) (f),fl[i]? =V n->r[i]? =V f->f.2≠ []->3<=n
 | [],r,_,i,n,f,h,_,_=>by grind
 | _::_, [],_,i,n,f,_,h,_=>by grind
 | m::fl,q::r,h,0,n,f,a,b,c=>by
   have:=h.1
   grind
 | m::fl,q::r,h,i+1,n,f,a,b,c=>qkR h.2 i n f wg wg c
section
variable{ops:List Oper}{frs:List FR}{S S':qab}{u:List (Option (List Nat))}{M0 M:Mem}{a:Act}{fl:List Nat}{Q0:Exit->qab->Prop}
def J.stepX{L:Nat->Bool}{ro:Option Nat}(a5:RoOk ro (ops.all ndOp))(C:Stat ops u)(hd:qa4 P h0 B Q0 ops.toArray fl ops S frs S')(hc:chk u (frs.map FR.fp))(g:J M0 h0 ops frs S L M a){i n:Nat}{o:Oper}(T:ops[i]? =V o)(hn:fl[i]? =V n)(a6:n≠1)(a7:n≠2)
  (hr: ∀e∈o.after.toList,Region.binds .any e=Y->L e.on=Y) (hi:L i=Z) {K:Act->World->Prop} {Q:Exit->Act->World->Prop}
  (hK: ∀M' a',J M0 h0 ops frs S (λk=>if k=i then Y else L k) M' a'->K a' M'.w):wpOpIn (Wd ro) 0 P ops.toArray Q i K a M.w:=by
 obtain⟨I,l,N⟩:=hd.at i o n T hn a6 a7;have r:=g.free C T hr hi;have W:=hd.length.1;have D: ∀t,t∈o.looksAt ops.toArray->look (selS ops frs L S.s) t=look (selS ops frs (λk=>decide (k < i)) S.s) t:=by
  intro t ht;refine selS_agree rfl λj oj A c e=>?_;exact C.looks i j o oj (r j c) T A t e ht
 have E: ∀p∈I.R,look (selL frs L S.l++h0.m) p.1=V p.2:=by
  intro p hp;rw[<-N.reads p hp,qae,qae];congr 1;rw[qb0 (l':=S.l) rfl λj f A c q hq=>?_];exact λe=>((qeM C W hc (r j c) l A q hq).1 p hp) e.symm
 have hA: ∀b,M.H.A b->b < S'.nx:=by
  intro b m;rcases g.A b m with h | ⟨j,f,_,hf,m⟩
  .exact Kq h hd.nx
  .exact(hd.fresh.1 j f hf b m).2
 have hM:HRel S'.nx (selL frs L S.l++h0.m) M:=⟨g.rel,hA,g.G⟩;have O: ∀b∈I.F,¬M.H.A b:=by
  intro b m a8;obtain⟨r1,_⟩:=hd.fresh.1 i I l b m;rcases g.A b a8 with h | ⟨j,f,R,hf,a1⟩
  .omega
  .have c:j≠i:=by rintro rfl;rw[hi] at R;cases R
   rcases Nat.lt_or_gt_of_ne c with h | h
   .have:=hd.fresh.2 j i f I h hf l b a1 b m;omega
   .have:=hd.fresh.2 i j I f h l hf b m b a1;omega
 have a2: ∀y∈o.op.operands,∀z,ev (selS ops frs (λk=>decide (k < i)) S.s) y=V z->VRel M z (a.eval y):=by
  intro y hy z hz;refine ev_rel' g.slot (λt ht=>D t ?_) hz;subst ht;exact Kg _ (List.mem_filterMap.2 ⟨.tmp t,by simpa using hy,rfl⟩)
 have s: ∀j w d,o.guard=V (j,w)->(ops.toArray[j]?).bind (·.dst)=V d->look (selS ops frs L S.s) d=look (selS ops frs (λk=>decide (k < i)) S.s) d:=by
  intro j w d hg a9;refine D d (Kh _ ?_);rw[hg];simp only[a9];simp
 have F: ∀(v:Value) (M':Mem),qai M M'->MRel M'->M'.H=M.H.upd I.W->VRel M' I.x v->J M0 h0 ops frs S (λk=>if k=i then Y else L k) M' (a.put o.dst v):=by
  intro v M' st a0 hH hv;have G: ∀j,(if j=i then Y else L j)≠L j->j=i:=by
   intro j h;by_cases e:j=i
   .exact e
   .rw[if_neg e] at h;exact absurd rfl h
  refine⟨g.st.trans st,a0,λb m=>?_,λb=>?_,?_,λt x hx=>?_,?_,λk ok hk hl e he m=>?_⟩
  .rw[hH,qjw] at m;rcases m with m | ⟨b0,m⟩
   .rcases g.A b m with h | ⟨j,f,H,h2,h3⟩
    .exact .inl h
    .exact .inr ⟨j,f,by by_cases e:j=i<;>simp[e,H],h2,h3⟩
   .rcases N.new _ m with h | ⟨b4,h⟩
    .exact .inr ⟨i,I,wc,l,h⟩
    .have H:=E _ h;simp only at H;rw[<-g.G] at H;rcases g.A b (g.rel.dom b _ H) with h | ⟨j,f,H,h2,h3⟩
     .exact .inl h
     .exact .inr ⟨j,f,by by_cases e:j=i<;>simp[e,H],h2,h3⟩
  .rw[hH,qhO,qae];cases hw:look I.W.reverse b with
   | some b0=>
     rw[qjS (i:=i) wc l hw λj f A a3 R p hp e=>?_];have a4:L j=Y:=by simpa[show j≠i by omega] using R
     have b1:=r j (by rw[a4];simp;omega);have hq:=look_mem hw;exact(qeM C W hc b1 l A p hp).2 _ (by simpa using hq) e.symm
   | none=>
     rw[qb0 (l':=S.l) (L':=L) rfl λj f A c p hp e=>?_]
     .rw[g.G b,qae]
     .have:=G j c;subst this;rw[l] at A;cases A;exact look_none hw p (by simpa using hp) e
  .cases X:o.dst with
   | none=>exact g.size
   | some d=>simp only[Act.put,Array.size_setIfInBounds];exact g.size
  .by_cases e:o.dst=V t
   .rw[qjT (i:=i) wc T l e (λj oj A c=>C.dst i j o oj (Ne.symm c) T A t e)] at hx;cases hx;have a3:t < a.tmps.size:=by
     have:=N.dst;rw[e] at this;rw[g.size];simpa[dOk] using this
    exact⟨v,by rw[e];simp[Act.put,a3],hv⟩
   .rw[selS_agree (L':=L) (s':=S.s) rfl λj oj A c=>(by have:=G j c;subst this;rw[T] at A;cases A;exact e)] at hx;obtain⟨v',H,h2⟩:=g.slot t x hx;refine⟨v',?_,h2.step st⟩;cases X:o.dst with
    | none=>exact H
    | some d=>
      simp only[Act.put];rw[Array.getElem?_setIfInBounds_ne (λh=>e (by rw[X,h]))];exact H
  .have:(a.put o.dst v).defers=a.defers:=vS
   rw[this];exact g.defs.step st
  .by_cases ek:k=i
   .subst ek;rw[T] at hk;cases hk;have:=hr e he m;show(if e.on=k then Y else L e.on)=Y;split<;>simp[this]
   .have b2:L k=Y:=by simpa[ek] using hl
    have:=g.closed k ok hk b2 e he m;show(if e.on=i then Y else L e.on)=Y;split<;>simp[this]
 refine qln (λo' b3=>a5.mem (Ki (by simpa using b3))) ?_;simp only[Kc,T];rcases N.does with ⟨hw,hl⟩ | ⟨hw,he⟩
 .rw[if_pos (qd0 g.slot s hw)];exact(hl S'.nx _ M a hM E O a2 K Q λv M' st a0 hH hv=>hK M' _ (F v M' st a0 hH hv))
 .rw[qd0 g.slot s hw];simp only[Bool.false_eq_true,if_false];refine hK M _ (F undef M (.refl M) g.rel (by rw[he];rfl) (by rw[he];exact qjs _))
def J.panX{L:Nat->Bool}{k:List It}{j0:Nat}{ro:Option Nat}(a0:RoOk ro (ops.all ndOp))(D:Stat ops u)(O:qa4 P h0 B Q0 ops.toArray fl ops S frs S')(a1:flGo (qa3 ops []) j0 0 fl=Y)(hc:wchk fl (frs.map FR.fp))(hB:B S'.nx)(l:J M0 h0 ops frs S L M a){o:Oper}(T:ops[j0]? =V o)(hn:fl[j0]? =V 2)
  (hr: ∀e∈o.after.toList,Region.binds .any e=Y->L e.on=Y) (hi:L j0=Z) {K:Act->World->Prop}:
  wpOpIn (Wd ro) 0 P ops.toArray (qc2 h0 M0 λe S=>after P h0 Q0 k e S) j0 K a M.w:=by
 have c:=l.free D T hr hi;obtain⟨b4,b5⟩:=O.length;obtain⟨nx,a2,f,args,ts,q,a3,E,hw,a4,r,R,ch,Wp,s,X,⟨e1,ha,hR⟩,hQ⟩:=O.pan j0 o T hn;have g: ∀t,t∈o.looksAt ops.toArray->look (selS ops frs L S.s) t=look (selS ops frs (λk=>decide (k < j0)) S.s) t:=by
  intro t ht;refine selS_agree rfl λj oj hj A e=>?_;exact D.looks j0 j o oj (c j A) T hj t e ht
 have a5: ∀b,look (selL frs L S.l++h0.m) b=look (selL frs (λk=>decide (k < j0)) S.l++h0.m) b:=by
  intro b;rw[qae,qae];congr 1;refine qb0 rfl λj f hj A p X=>?_;exfalso;have b6:=qad hj;have F:=Kd (show j < fl.length by omega);have h3:=qkR hc j _ f.fp F (by rw[List.getElem?_map,hj];rfl) (by simp only[FR.fp];intro e;rw[List.map_eq_nil_iff] at e;rw[e] at X;cases X);have h4:=(qgQ a1 j _ F).2.2 h3;rw[Kr] at h4;exact(c j A).2.2 h4
 have hA: ∀b,M.H.A b->b < S'.nx:=by
  intro b n;rcases l.A b n with h | ⟨j,f,_,hf,n⟩
  .exact Kq h O.nx
  .exact(O.fresh.1 j f hf b n).2
 have C:HRel S'.nx (selL frs (λk=>decide (k < j0)) S.l++h0.m) M:=⟨l.rel,hA,λb=>by rw[l.G,a5]⟩;have G: ∀y∈o.op.operands,∀z,ev (selS ops frs (λk=>decide (k < j0)) S.s) y=V z->VRel M z (a.eval y):=by
  intro y hy z hz;refine ev_rel' l.slot (λt ht=>g t ?_) hz;subst ht;exact Kg _ (List.mem_filterMap.2 ⟨.tmp t,by simpa using hy,rfl⟩)
 have m: ∀j w d,o.guard=V (j,w)->(ops.toArray[j]?).bind (·.dst)=V d->look (selS ops frs L S.s) d=look (selS ops frs (λk=>decide (k < j0)) S.s) d:=by
  intro j w d hg a6;refine g d (Kh _ ?_);rw[hg];simp only[a6];simp
 have H:qeJ M S.d a.defers:=l.defs;refine qln (λo' a7=>a0.mem (Ki (by simpa using a7))) ?_;simp only[Kc,T];rw[if_pos (qd0 l.slot m hw)];obtain⟨vs,I,a8,hv⟩:=qeZ (f:=f) (args:=args) (ts:=⟨ts⟩) G a3 E a4;have hh:Here M s nx R 0:=qhw C.rel ha hR (λb N _ n=>by rw[C.G];exact n) (λb h1 h2 n=>by omega);have a9:wks q.2 (rnms (ridx s nx) r):=by rw[e1];exact qc6 ts q.2
 obtain⟨e2,e3⟩:=qcs a9;rw[qaJ] at e2;unfold Oper.wp;rw[I];refine Calls.mono (X.calls C.rel hh wa λi y v hy b0=>?_) λe w' ⟨M',W,e4,st,b1,hH,he,hW,hk⟩=>?_
 .have b7:=qad hy;have hx:=Kd (show i < q.2.length by omega);exact(hv i _ v hx b0).wk (e3 i _ _ hx (qbS hy))
 .subst e4 he;refine⟨M',⟨S.n, [],S.d,S'.nx,rnL (ridx s nx) W++selL frs (λk=>decide (k < j0)) S.l⟩,rfl,l.st.trans st,⟨?_,l.size,λt x hx=>?_,H.step st⟩,qde (hQ W hW _ a2 hB)⟩
  .rw[List.append_assoc];refine qfY C b1 (Nat.le_refl _) hH λp b2=>?_;obtain⟨q',b3,e⟩:=qc9 b2;rw[e];obtain⟨N,n,_⟩:=qgh hR (hk q' b3);exact C.A _ (C.rel.dom _ N (by rw[C.G];exact n))
  .simp[look] at hx
def drawnX{k:List It}{j0:Nat}{o0:Oper}{ro:Option Nat}(C:RoOk ro (ops.all ndOp))(m:Stat ops u)(D:qa4 P h0 B Q0 ops.toArray fl ops S frs S')(E:flGo (qa3 ops []) j0 0 fl=Y)(hc:chk u (frs.map FR.fp))(hw:wchk fl (frs.map FR.fp))(hB:B S'.nx)(t:ops[j0]? =V o0)(n:fl[j0]? =V 2):
  ∀(f:Nat) (c:Array Bool) (M:Mem) (a:Act),c.size=ops.length->(c.toList.filter (·==Y)).length+f=ops.length->c.getD j0 Z=Z->
   J M0 h0 ops frs S (λk=>c.getD k Z) M a->wpAnyIn (Wd ro) 0 P .any ops.toArray (qc2 h0 M0 λe S=>after P h0 Q0 k e S) f c a M.w:=by
 have g: ∀(c:Array Bool) (k:Nat),k < c.size->c.getD k Y=c.getD k Z:=by
  intro c k s;simp[s]
 have F:=qad t;have p: ∀(c:Array Bool),c.size=ops.length->Region.ready .any ops.toArray c= []-> ∀k,k < ops.length->c.getD k Z=Y:=by
  intro c z N k;induction k using Nat.strongRecOn with
  | ind k v=>
    intro s;cases hl:c.getD k Z with
    | true=>rfl
    | false=>
      exfalso;have:k∈Region.ready .any ops.toArray c:=by
       rw[mem_ready];refine⟨by rw[g c k wa];exact hl,ops[k],by simp[s],λe O G=>?_⟩;have H:=m.low k ops[k] (by simp[s]) e (by simpa using O) G;exact v e.on H wa
      rw[N] at this;cases this
 have q: ∀(l:List Bool),(l.filter (·==Y)).length=l.length-> ∀k,k < l.length->(l[k]?).getD Z=Y:=by
  intro l;induction l with
  | nil=>intro _ k s;simp at s
  | cons b l v=>
    intro h k s;have R:=List.length_filter_le (·==Y) l;cases b with
    | true=>
      simp only[Kj,beq_self_eq_true,if_true,List.length_cons] at h;cases k with
      | zero=>simp
      | succ k=>simpa using v wa k (by simpa using s)
    | false=>
      simp at h;simp at R;omega
 have I: ∀(l:List Bool) (i:Nat),l[i]? =V Z->((l.set i Y).filter (·==Y)).length=(l.filter (·==Y)).length+1:=by
  intro l;induction l with
  | nil=>intro i h;simp at h
  | cons b l v=>
    intro i h;cases i with
    | zero=>simp at h;subst h;simp
    | succ i=>
      have:=v i wQ;simp only[List.set_cons_succ,Kj];split<;>simp_all
 intro f;induction f with
 | zero=>
   intro c M a z hn K L;exfalso;have:=q c.toList (by simpa[z] using hn) j0 (by simpa[z] using F);have:c.getD j0 Z=Y:=by simpa using this
   rw[K] at this;cases this
 | succ f v=>
   intro c M a z hn K L;refine⟨λN=>?_,λi hi=>?_⟩
   .have:=p c z N j0 F;rw[K] at this;cases this
   .obtain⟨h1,o,A,T⟩:=mem_ready.1 hi;simp only[Kc] at A;have w:=qad A;have d:c.getD i Z=Z:=by rw[<-g c i wa];exact h1
    have x:=Kd (show i < fl.length by rw[D.length.2];exact w);have y:=qgQ E i _ x;rw[Kr] at y;have j: ∀e∈o.after.toList,Region.binds .any e=Y->c.getD e.on Z=Y:=λe O G=>T e (by simpa using O) G
    by_cases W:fl[i]'(by rw[D.length.2];exact w)=2
    .have e:=y.2.1 W;subst e;rw[A] at t;cases t;exact L.panX C m D E hw hB A n j d
    .by_cases e1:fl[i]'(by rw[D.length.2];exact w)=1
     .have hp:=m.prec i j0 (y.1 e1);have:=hp.listed L.closed (.inr ⟨o,A,j⟩);rw[K] at this;cases this
     .refine L.stepX C m D hc A x e1 W j d λM' a' X=>?_;have a0:i≠j0:=by
       rintro rfl;rw[x] at n;simp only[Option.some.injEq] at n;exact W n
      refine v _ M' a' (by simpa using z) ?_ ?_ ?_
      .have G:c.toList[i]? =V Z:=by
        have r:i < c.size:=wa
        simp[r] at d;simp[r,d]
       have:=I c.toList i G;simp only[Array.toList_setIfInBounds];omega
      .rw[getD_set_ne Z a0];exact K
      .have:(λk=>(c.setIfInBounds i Y).getD k Z)=λk=>if k=i then Y else c.getD k Z:=by
        funext k;by_cases e:k=i
        .subst e;have r:k < c.size:=wa
         simp[r]
        .rw[getD_set_ne Z (Ne.symm e),if_neg e]
       rw[this];exact X
def qh0{id k j0 o0}(m:P.follows .mixedOrders=Y)(d:stat ops u=Y)(e:flGo (qa3 ops []) j0 0 fl=Y)(n:qa4 P h0 B Q0 ops.toArray fl ops S frs S')
  (p:chk u (frs.map FR.fp)) (q:wchk fl (frs.map FR.fp)) (r:B S'.nx) (f:ops[j0]? =V o0) (g:fl[j0]? =V 2):IRun P h0 (.code (.region id ops.toArray Y)::k) S Q0:=by
 intro M0 s M a y h ro j;refine wpIn_region_any m ?_;have:=drawnX (M0:=M0) (k:=k) (ro:=ro) j (qkN d) n e p q r f g ops.length (Array.replicate ops.length Z)
  {M with w:=M.w.drew} a wc wc (by simp;grind) ?_
 .simp_all
 .have c:(λk=>(Array.replicate ops.length Z).getD k Z)=λ_=>Z:=by
   simp
   grind
  rw[c];exact⟨y.trans (.drew M),h.heap.rel.drew,λb z=> .inl (h.heap.A b z),λb=>(by rw[qcH];exact h.heap.G b),h.size,
   λt x l=>(by rw[qcf] at l;obtain⟨v,A,C⟩:=h.slot t x l;exact⟨v,A,C.step (.drew M)⟩),h.defs.step (.drew M),λi o E D=>wg⟩
end
def PRun(P:Program)(h0:IH)(Q:Exit->qab->Prop)(all:Array Oper)(fl:List Nat)(l:List Oper)(S:qab)(b:List FP)(K:List FP->Prop):Prop:=
 ∃frs S',qa4 P h0 (λ_=>True) Q all fl l S frs S'/\K (b++frs.map FR.fp)
def pvx(P:Program)(h0:IH)(Q:Exit->qab->Prop)(all:Array Oper)(K:List FP->Prop):List Nat->List Oper->qab->List FP->Prop
 | [], [],_,b=>K b
 | 1::fl,o::r,S,b=>dOk S.n o.dst=Y/\pvx P h0 Q all K fl r ⟨S.n,putS o.dst .dead S.s,S.d,S.nx,S.l⟩ (b++ [([], [])])
 | 2::fl,o::r,S,b=>(dOk S.n o.dst=Y/\qfD P h0 (λ_=>True) Q all o S)/\pvx P h0 Q all K fl r ⟨S.n,putS o.dst .dead S.s,S.d,S.nx,S.l⟩ (b++ [([], [])])
 | _::fl,o::r,S,b=>dvc P h0 all (λS' c=>pvx P h0 Q all K fl r S' c) [o] S b
 | _,_,_,_=>False
def qeY{Q all K}: ∀(fl l S b),pvx P h0 Q all K fl l S b->PRun P h0 Q all fl l S b K
 | [], [],S,b,h=>⟨[],S, .nil S,by simp[Ke];exact h⟩
 | [],_::_,S,b,h=>h.elim
 | n::fl, [],S,b,h=>by
   rcases n with _ | _ | _ | n<;>exact h.elim
 | n::fl,o::r,S,b,h=>by
   have c:(n≠1/\n≠2)->dvc P h0 all (λS' f=>pvx P h0 Q all K fl r S' f) [o] S b->PRun P h0 Q all (n::fl) (o::r) S b K:=by
    intro p h;obtain⟨frs,q,d,g⟩:=dvc_sound _ _ _ h;have i:=d.length
    match frs,i with
    | [s],_=>
      obtain⟨j,S',k,m⟩:=qeY fl r q _ g;exact⟨s::j,S', .live p d k,wg⟩
   rcases n with _ | _ | _ | n
   .exact c wh h
   .obtain⟨d,g⟩:=h;obtain⟨frs,S',k,m⟩:=qeY fl r _ _ g;exact⟨_::frs,S', .dead (.inl rfl) (λe=>by omega) d k,by simpa[FR.fp] using m⟩
   .obtain⟨⟨d,t⟩,g⟩:=h;obtain⟨frs,S',k,m⟩:=qeY fl r _ _ g;exact⟨_::frs,S', .dead (.inr rfl) (λ_=>t) d k,by simpa[FR.fp] using m⟩
   .exact c ⟨wa,wa⟩ h
def qc7{ops id k S Q}(u j0 fl)(e:P.follows .mixedOrders=Y)(c:stat ops u=Y)
  (b:(flGo (qa3 ops []) j0 0 fl && (ops[j0]?).isSome && fl[j0]? ==V 2)=Y)
  (h:pvx P h0 Q ops.toArray (λf=>chk u f/\wchk fl f) fl ops S []):IRun P h0 (.code (.region id ops.toArray Y)::k) S Q:=by
 simp only[Kn,beq_iff_eq] at b;obtain⟨⟨g,i⟩,j⟩:=b;obtain⟨o,d⟩:=Option.isSome_iff_exists.1 i;obtain⟨frs,S',l,m,n⟩:=qeY _ _ _ _ h;exact qh0 e c g l wg wg trivial d j
section
variable{Q:Exit->qab->Prop}{all:Array Oper}{K:List FP->Prop}{fl:List Nat}{o:Oper}{r:List Oper}{N:Nat}{s:List (Nat × IV)}{d:List IDef}{nx:Nat}{l:List (Nat × IBlk)}{acc:List FP}
@[go_sem ↓] def pvx_nil{S}:pvx P h0 Q all K [] [] S acc=K acc:=(rfl)
@[go_sem ↓] def pvx_3{S}:pvx P h0 Q all K (3::fl) (o::r) S acc=dvc P h0 all (λS' b=>pvx P h0 Q all K fl r S' b) [o] S acc:=(rfl)
@[go_sem ↓] def pvx_2:pvx P h0 Q all K (2::fl) (o::r) ⟨N,s,d,nx,l⟩ acc=((dOk N o.dst=Y/\qfD P h0 (λ_=>True) Q all o ⟨N,s,d,nx,l⟩)/\pvx P h0 Q all K fl r ⟨N,putS o.dst .dead s,d,nx,l⟩ (acc++ [([], [])])):=(rfl)
variable{dst:Option Tmp}{ty:TypeId}{pos:String}{aft:Array Edge}{g:Option (Nat × Bool)}{f:Operand}{args:List Operand}{ts:List TypeId}
def qc8(h:qav (qap (ev s) f args) (λq=>(qao all s ⟨dst, .call {callee:= .value f,args:=⟨args⟩,argTypes:=⟨ts⟩},ty,pos,aft,g⟩=V Y/\fnOk P q.1=Y)/\
   qfd P q.1 (qbA P ts q.2) (look (l++h0.m)) nx λc W=> ∀n,nx<=n->Q (.panic c) ⟨N, [],d,n,W++l⟩) False):
  qfD P h0 (λ_=>True) Q all ⟨dst, .call {callee:= .value f,args:=⟨args⟩,argTypes:=⟨ts⟩},ty,pos,aft,g⟩ ⟨N,s,d,nx,l⟩:=by
 cases e:qap (ev s) f args with
 | none=>rw[e] at h;exact h.elim
 | some q=>
   rw[e] at h;obtain⟨b,R,c,j,i,k,m,p⟩:=h.2;exact⟨f,args,ts,q,rfl,e,h.1.1,h.1.2,b,R,c,j,i,k,m,λW t n v _=>p W t n v⟩
end
attribute [go_sem] wchk
end Go.Idl
namespace Go.Idl
variable{P:Program}{h0:IH}
def qpi{F n}{o:Oper}{a next b Q f r}(h:o.uponIn F n P a next Q r)(g: ∀a w,next a w->b a w)(j: ∀e a w,Q e a w->f e a w):o.uponIn F n P a b f r:=by
 have l:LetsOut Q->LetsOut f:=λ⟨a,w,q⟩=>⟨a,w,j _ _ _ q⟩
 have k: ∀e w,(match(e:Ending),(w) with | .returned v,c=>next (a.put o.dst v) c | .panicked d,c=>Q (.panic d) a c | .outgrown,_=>LetsOut Q)->
   (match e,w with | .returned v,c=>b (a.put o.dst v) c | .panicked d,c=>f (.panic d) a c | .outgrown,_=>LetsOut f):=by
  grind
 unfold Oper.uponIn at h ⊢;split at h
 .simp_all
 .simp_all
 .simp_all
 .exact⟨h.1,h.2.mono k⟩
 .exact⟨h.1,h.2.mono λv w i=>g _ _ i⟩
 .exact⟨h.1,h.2.mono k⟩
 .simp_all
 omega
def qla{F n b Q d}(f: ∀e a w,Q e a w->d e a w): ∀(l a w),wpListIn F n P b Q l a w->wpListIn F n P b d l a w:=by
 intro l;induction l with
 | nil=>exact λa w h=>f _ _ _ h
 | cons o l i=>
   intro a w h;simp[wpListIn] at h ⊢;split at h
   .rename_i c;rw[if_pos c];exact⟨h.1,qpi h.2 (λa w h=>i a w h) f⟩
   grind
def IOps.mono{b l S Q f}(h:IOps P h0 b l S Q)(g: ∀e S,Q e S->f e S):IOps P h0 b l S f:=
 λM0 c M a i j r d=>qla (λ_ _ _ ⟨k,m,n,o,p,q⟩=>⟨k,m,n,o,p,g _ _ q⟩) _ _ _ (h M0 c M a i j r d)
def qlt(P:Program)(f:Func)(h:IH)(K:Nat->List (Nat × IBlk)->Prop):Exit->qab->Prop
 | .normal,S=>S.d= []/\h.nx<=S.nx/\(ires P S (S.l++h.m) f.results.toList).isSome=Y/\K S.nx (ddp S.l)
 | .ret,S=>S.d= []/\h.nx<=S.nx/\(ires P S (S.l++h.m) f.results.toList).isSome=Y/\K S.nx (ddp S.l)
 | _,_=>False
section
variable{fnc:Func}{h:IH}{K:Nat->List (Nat × IBlk)->Prop}{N:Nat}{s:List (Nat × IV)}{d:List IDef}{nx:Nat}{l:List (Nat × IBlk)}
@[go_sem ↓] def quO:qlt P fnc h K .normal ⟨N,s,d,nx,l⟩=(d= []/\h.nx<=nx/\(ires P ⟨N,s,d,nx,l⟩ (l++h.m) fnc.results.toList).isSome=Y/\K nx (ddp l)):=(rfl)
end
def leaves_rec(n:Nat){fn fnc:Func}{Q:IEnd->Nat->List (Nat × IBlk)->Prop}{N:Nat}{s:List (Nat × IV)}{d q:List IDef}{nx:Nat}{l:List (Nat × IBlk)}{f:FuncId}{cap args:List IV}{u:qaO}
  {id:Nat} {dst:Option Tmp} {ts:Array TypeId} {ty:TypeId} {j:String} {k:Array Edge} {b:List Oper} {C:Code} (E:fnOk P f=true) (F:P.funcs[f]? =some fnc)
  (G:fnc.body=some (.seq (.region id ⟨⟨dst, .call {callee:= .builtin .recover,args:=#[],argTypes:=ts},ty,j,k,none⟩::b⟩ false) C)) (m:(args++cap).length<=fnc.ntmps) (L:dOk fnc.ntmps dst=true)
  (h:vc P ⟨nx,l++h0.m⟩ (qlt P fnc ⟨nx,l++h0.m⟩ λg l'=>qbf P fn h0 Q ⟨N,s,d,g,l'++l⟩ q (qcp (qa2 u).2)) n
   (.ops ⟨⟨dst, .call {callee:= .builtin .recover,args:=#[],argTypes:=ts},ty,j,k,none⟩::b⟩ b:: .code C:: [])
   ⟨fnc.ntmps,putS dst (.p (.sc (qa2 u).1)) (enum 0 (args++cap)), [],nx, []⟩) (t:b.all ncOp=true:=by rfl):qbf P fn h0 Q ⟨N,s,d,nx,l⟩ (⟨.func f,cap,args⟩::q) u:=by
 refine leaves_call E (icallD_of F G m (qeN (qd3 (by cases dst<;>simp_all[dOk,qaE,start]) (λS H=>?_) t ?_)))
 .cases H
 .have c: ∀e i,qlt P fnc ⟨nx,l++h0.m⟩ (λg l'=>qbf P fn h0 Q ⟨N,s,d,g,l'++l⟩ q (qcp (qa2 u).2)) e i->
    FinD P fnc ⟨nx,l++h0.m⟩ (λr D g l'=>qbf P fn h0 Q {(⟨N,s,d,nx,l⟩:qab) with nx:=g,l:=l'++l} q (match r with | .ret _=>qcp D | .pan v=>qfs D v)) e (qa2 u).2 i:=by
   intro e i a;cases e with
   | normal=>
     obtain⟨o,w,y,z⟩:=a;obtain⟨x,A⟩:=Option.isSome_iff_exists.1 y;exact .norm _ i x _ _ o A (qcD o w) z
   | ret=>
     obtain⟨o,w,y,z⟩:=a;obtain⟨x,A⟩:=Option.isSome_iff_exists.1 y;exact .ret _ i x _ _ o A (qcD o w) z
   | exit id=>exact a.elim
   | goto l=>exact a.elim
   | panic v=>exact a.elim
   | outgrown=>exact a.elim
  have B:=vc_sound _ _ _ _ h;have I:(start fnc.ntmps (args++cap) ⟨nx,l++h0.m⟩).put dst (.p (.sc (qa2 u).1)) (start fnc.ntmps (args++cap) ⟨nx,l++h0.m⟩).nx []=⟨fnc.ntmps,putS dst (.p (.sc (qa2 u).1)) (enum 0 (args++cap)), [],nx, []⟩:=by
   rw[qa1];rfl
  rw[I];refine IOps.mono B λe i a=>?_;cases e with
  | normal=>exact qdO (qbi.mono a λe S a=>c e S a)
  | ret=>exact c _ i a
  | exit id=>exact c _ i a
  | goto l=>exact c _ i a
  | panic v=>exact c _ i a
  | outgrown=>exact c _ i a
@[go_sem] def qvi{v o}:qa2 (.pan ({v:=v,recovered:=false}::o))=(v, .pan ({v:=v,recovered:=true}::o)):=(rfl)
@[go_sem] def qvj:qa2 .ret=(.nilIface, .ret):=(rfl)
@[go_sem] def qu5:qcp .ret= .ret:=(rfl)
@[go_sem] def qu4{v}:qcp (.pan [{v:=v,recovered:=true}])= .ret:=(rfl)
attribute [go_sem] ddp
def endX_of{k N nx m l s b c}(W)(e:b W)(a:k<=nx)(f:qb2 k (W.map (·.1)) (l.map (·.1)))
  (g:qeh (keepB k []) (look (l++m)) W) (i:qbC k W):EndXG k m b c (.panic c) ⟨N,s, [],nx,l⟩:=⟨rfl,rfl,a,W,f,g,i,e⟩
def ex_key{a e:Type}{b c:a}{x:e}:(∃y,(b,y)=(c,x))=(b=c):=wc
attribute [go_sem] ex_key exists_or implies_true
def qbG{Q k S}:vc P h0 Q 0 k S=IRun P h0 k S Q:=wE
@[go_sem] def mk_all{l:List Value}{p}:Array.all ⟨l⟩ p=l.all p:=wc
attribute [go_sem] List.all_cons List.all_nil Option.bind_some
end Go.Idl
