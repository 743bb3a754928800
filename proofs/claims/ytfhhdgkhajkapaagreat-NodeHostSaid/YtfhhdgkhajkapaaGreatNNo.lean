/- Probes that come; a probe that begins. -/
import Derived.Test.YtfhhdgkhajkapaaGreatNNn
set_option linter.all false
open List renaming replicate->Ka,take_of_length_le->Kb
open Option renaming none->U,some->V
namespace Go.Proofs.NO
open Go Go.Idl Go.Proofs Go.GP Go.Proofs.Tryz
set_option maxHeartbeats 0
set_option maxRecDepth 100000
def qoM(N:Int)(ls:List (Int × Int))(T:List Nd)(ff:Bool)(h:Hs)(n j:Nat)(nd:Nd)(st:St)(hn:h.node=n)(hj:h.state=j)(hx:T[n]? =V nd)(hq:nd.states[j]? =V st)(hl:ls.length<=1000000)
  (hw:st.waits.length<=1000) (hil:h.inn.length=(ins h.node 0 ls).length) (hol:h.out.length=(outs h.node 0 ls).length) (seen:List Int) (hse:seen.length<=100) (link:Int) (f:Fm) (hi0:0<=f.init/\f.init<=5) (hp:f.path.length<=100):
  Pure prog 248 [lAp N ls T ff,lHs h,lI seen,sci .i64 link,lFm f] (.tup [lI (hearP ls st h seen link f).1,lOus (hearP ls st h seen link f).2.1,lI (hearP ls st h seen link f).2.2]):=by
 have hB:=qlb N ls T ff h n j nd st hn hj hx hq;have hS:=qoT N ls T ff h n j nd st hn hj hx hq hl hw hil f.init f.num f.path hp;have hI:=qdl N h.node ls hl;have hC:=qfQ (ins h.node 0 ls) link;have hBk:=qfT N ls link hl;have hG:=qo3 ⟨N,ls,T,ff,0, []⟩ h (qaE ls link) hl hol;have hCl:=CloneI_spec f.path wa;obtain⟨i,ei⟩:=Int.eq_ofNat_of_zero_le hi0.1;have hLa:=qpL seen i;obtain⟨f1,f2,⟨f3,f4⟩,f5,f6,f7,f8,f9⟩:=f;simp only at ei hi0 hp hS hCl;subst ei;unfold hearP;simp only[Int.toNat_natCast];generalize sendsP ls st h (i:Int) f7 f9=S at *;by_cases c1:link∈ins h.node 0 ls
 rotate_left
 .rw[if_pos (.inl c1)];rw[decide_eq_false c1] at hC;refine zAb func248 λhs=>?_;refine zN [2,3,5,6,9,13,14] [U,U,U,U,V [5],U,V [],U,U,U,V [],U,U,U,U,U,U,U,U,V [14,15,21,22],V [21,22],U,U,U,U] ?_;refine zX hI ?_;(refine zF ?_;refine qaa (hC) zB ?_);exact zU
 rw[decide_eq_true c1] at hC;by_cases c2:st.mode=2
 rotate_left
 .rw[if_pos (.inr (.inl c2))];have e2:(st.mode==2)=false:=beq_eq_false_iff_ne.2 c2;rw[e2] at hB;refine zAb func248 λhs=>?_;refine zN [2,3,5,6,9,13,14] [U,U,U,U,V [5],U,V [],U,U,U,V [],U,U,U,U,U,U,U,U,V [14,15,21,22],V [21,22],U,U,U,U] ?_;refine zX hI ?_;refine zX hC ?_;(refine zF ?_;refine qaa (hB) zB ?_);exact zU
 have e2:(st.mode==2)=true:=beq_iff_eq.2 c2;rw[e2] at hB;simp only at hG;generalize hgv:lenAt h.out (indexL (qaE ls link) 0 (outs h.node 0 ls))=gv at *;by_cases c3:gv=f8
 rotate_left
 .rw[if_pos (.inr (.inr c3))];have e3:(gv != f8)=true:=bne_iff_ne.2 c3;refine zAb func248 λhs=>?_;refine zN [2,3,5,6,9,13,14] [U,U,U,U,V [5],U,V [],U,U,U,V [],U,U,U,U,U,U,U,U,V [14,15,21,22],V [21,22],U,U,U,U] ?_;refine zX hI ?_;refine zX hC ?_;refine zX hB ?_;refine zX hBk ?_;(refine zF ?_;refine qaa (hG) zB ?_);exact zy e3
 have e3:(gv != f8)=false:=by simp[c3]
 rw[if_neg (λq=>q.elim (λq=>q c1) λq=>q.elim (λq=>q c2) λq=>q c3)];by_cases c4:(i:Int)=h.node
 .rw[if_pos c4];have e4:((i:Int)==h.node)=true:=beq_iff_eq.2 c4;refine zAb func248 λhs=>?_;refine zN [2,3,5,6,9,13,14] [U,U,U,U,V [5],U,V [],U,U,U,V [],U,U,U,U,U,U,U,U,V [14,15,21,22],V [21,22],U,U,U,U] ?_;refine zX hI ?_;refine zX hC ?_;refine zX hB ?_;refine zX hBk ?_;(refine zF ?_;refine qaa (hG) zB ?_);refine zS (zQ e3 e4) ?_;(refine zG ?_;refine qaa (hCl) zB ?_);exact zU
 rw[if_neg c4];have e4:((i:Int)==h.node)=false:=beq_eq_false_iff_ne.2 c4;by_cases c5:f7<=(seen[i]?).getD 0
 .rw[if_pos c5];refine zAb func248 λhs=>?_;refine zN [2,3,5,6,9,13,14] [U,U,U,U,V [5],U,V [],U,U,U,V [],U,U,U,U,U,U,U,U,V [14,15,21,22],V [21,22],U,U,U,U] ?_;refine zX hI ?_;refine zX hC ?_;refine zX hB ?_;refine zX hBk ?_;(refine zF ?_;refine qaa (hG) zB ?_);refine zS (zQ e3 e4) ?_;refine zN [2,9,13] [U,U,U,V [4,5],U,U,U] ?_;(refine zF ?_;refine qaa (hLa) zB ?_);exact zy c5
 rw[if_neg c5];obtain⟨Z,hZ⟩: ∃Z,Z=(seen++Ka (i+1 - seen.length) 0).set i f7:=⟨_,rfl⟩;rw[<-hZ];rcases Nat.lt_or_ge i seen.length with c6 | c6
 .have m1: ¬(seen.length:Int) < (i:Int)+1:=wa
  refine zAb func248 λhs=>?_;refine zN [2,3,5,6,9,13,14] [U,U,U,U,V [5],U,V [],U,U,U,V [],U,U,U,U,U,U,U,U,V [14,15,21,22],V [21,22],U,U,U,U] ?_;refine zX hI ?_;refine zX hC ?_;refine zX hB ?_;refine zX hBk ?_;(refine zF ?_;refine qaa (hG) zB ?_);refine zS (zQ e3 e4) ?_;refine zN [2,9,13] [U,U,U,V [4,5],U,U,U] ?_;(refine zF ?_;refine qaa (hLa) zB ?_;refine zV ?_);have hZ':Z=seen.set i f7:=by rw[hZ,show i+1 - seen.length=0 by omega,List.replicate_zero,List.append_nil]
  rw[hZ'];(try simp(maxSteps:=2000000) (disch:=omega) only[go_sem,simprocAttr,zD,zE,c5,m1,eI]);refine zY hS ?_;rw[Kb wb]
 .have m1:(seen.length:Int) < (i:Int)+1:=wa
  refine zAb func248 λhs=>?_;refine zN [2,3,5,6,9,13,14] [U,U,U,U,V [5],U,V [],U,U,U,V [],U,U,U,U,U,U,U,U,V [14,15,21,22],V [21,22],U,U,U,U] ?_;refine zX hI ?_;refine zX hC ?_;refine zX hB ?_;refine zX hBk ?_;(refine zF ?_;refine qaa (hG) zB ?_);refine zS (zQ e3 e4) ?_;refine zN [2,9,13] [U,U,U,V [4,5],U,U,U] ?_;(refine zF ?_;refine qaa (hLa) zB ?_;refine zV ?_);obtain⟨m,hm⟩: ∃m,m=i+1:=⟨_,rfl⟩;have t1:((i:Int)+1).toNat=m:=wa
  have t2:seen.length.min m=seen.length:=Nat.min_eq_left wa;have t3:seen.take seen.length=seen:=List.take_length;have t4: ∀k:Nat,Ka k [IV.p (.sc (.int .i64 0))]=ir eI (Ka k 0):=λk=>by simp[ir,eI]
  have t5:ir eI seen++ir eI (Ka (m - seen.length) 0)=ir eI (seen++Ka (m - seen.length) 0):=wA
  rw[<-hm] at hZ;obtain⟨A,hA⟩: ∃A,A=seen++Ka (m - seen.length) 0:=⟨_,rfl⟩;have hAl:A.length=i+1:=by rw[hA,List.length_append,List.length_replicate];omega
  rw[<-hA] at hZ t5;clear hA;subst hZ;(try simp(maxSteps:=2000000) (disch:=omega) only[go_sem,simprocAttr,zD,zE,c5,m1,t1,t2,t3,t4,t5,eI]);refine zY hS ?_;rw[Kb (by rw[List.length_set];omega)]
end Go.Proofs.NO
