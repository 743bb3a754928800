/- The document's answer: what is built of pieces. -/
import Derived.Test.YteebghpjgcacmaaGreatYMh
set_option linter.unusedSimpArgs false
set_option linter.unusedVariables false
namespace Go.Proofs.GY
open Go Go.Idl Go.Proofs Go.GP
set_option maxHeartbeats 20000000
set_option maxRecDepth 100000
theorem ris_keys: ∀ {l:List (Int × Int)} {last:Int},RisP last l→(∀m∈l,last < m.1)∧(keysM l).Nodup
 | [],_,_=>⟨by simp,by simp [keysM]⟩
 | x::r,last,h=>by
   obtain⟨h1,h2⟩:=ris_keys h.2
   have h0:=h.1.1
   refine⟨fun m hm=>?_,?_⟩
   ·rcases List.mem_cons.1 hm with rfl | q
    ·exact h0
    ·have:=h1 m q;omega
   ·rw [keysM,List.map_cons,List.nodup_cons]
    refine⟨fun q=>?_,h2⟩
    obtain⟨m,hm,e⟩:=List.mem_map.1 q
    have:=h1 m hm
    omega
theorem mixD_P {out:List Int} {inn:List (Int × Int)} (h:RisP 0 inn):tB (MixD out inn)=tB (MixP out inn):=tB_congr (mix_iff (ris_keys h).2).symm
theorem lkS_len {l:List Pc} {ls:List (Int × Int)} (hg: ∀p∈l,gPc p) (i:Nat):(lkS ls l i).length≤1000000:=by
 unfold lkS lkP
 cases h:l[(lkA ls i).1.toNat]? with
 | none=>simp [zPc]
 | some p=>
   have gp:=hg _ (List.mem_of_getElem? h)
   rw [Option.getD_some]
   cases h2:p.out[lkO ls i]? with
   | none=>simp
   | some x=>rw [Option.getD_some];exact gp.outs _ (List.mem_of_getElem? h2)
abbrev nil0:IV:= .p (.sc (.slice none 0 0))
theorem R13Build_spec (s:Sc) (l:List Pc) (logs:Bool) (hl:s.ls.length≤1000000) (hT:SmallT s.T) (hg: ∀p∈l,gPc p):Pure Tryz.prog 22 [lApp s,lPs l,scb logs] (lBld (bldB s.N s.ls s.T l logs)):=by
 obtain⟨N,ls,T,ff,room,acts⟩:=s
 simp only at hl hT ⊢
 have bad: ¬BldP N ls T l logs→bldB N ls T l logs=(([], [], []),4):=fun h=>by rw [bldB,tB_neg h];rfl
 have good:BldP N ls T l logs→bldB N ls T l logs=((bldS l,bldL ls l logs,bldE ls l),0):=fun h=>by rw [bldB,tB_pos h];rfl
 by_cases hw:WholeP N ls T l
 rotate_left
 ·have e:=bad fun h=>hw h.1
  have e2:=tB_neg hw
  rw [e]
  refine pcall0 200 (fn:=Tryz.f22) Tryz.func22 rfl (by simp [Tryz.ntmps22]) zB zB fun hs=>?_
  ((try refine zW ?_);(try with_reducible exact True.intro))
  (refine at_call 200 ?_;(refine zW ?_;try with_reducible exact True.intro);refine callA_of (R13Whole_spec ⟨N,ls,T,ff,room,acts⟩ l hl hT hg) zB ?_;((try refine zW ?_);(try with_reducible exact True.intro)))
  (try simp (maxSteps:=2000000) (disch:=omega) only [go_sem,simprocAttr,zD,zE,e2])
 have eW:=tB_pos hw
 have hll:l.length≤1000000:=by have:=hw.2.1;have:=hw.1.1.2.1;omega
 obtain⟨S,hS⟩: ∃S,S=bldS l:=⟨_,rfl⟩
 obtain⟨L,hL⟩: ∃L,L=bldL ls l logs:=⟨_,rfl⟩
 obtain⟨E,hE⟩: ∃E,E=bldE ls l:=⟨_,rfl⟩
 have hSl:S.length=l.length:=by rw [hS,bldS,List.length_map]
 have hLl:L.length=ls.length:=by rw [hL,bldL,List.length_map,List.length_range]
 have hEl:E.length=ls.length:=by rw [hE,bldE,List.length_map,List.length_range]
 have hSs: ∀(i:Nat) (li:i < l.length),S.take (i+1)=S.take i++ [l[i].state]:=fun i li=>by
  rw [hS,bldS,List.take_succ_eq_append_getElem (by rw [List.length_map];exact li),List.getElem_map]
 have hLs: ∀(i:Nat) (li:i < ls.length),L.take (i+1)=L.take i++ [lkM ls l logs i]:=fun i li=>by
  have lL:i < L.length:=by omega
  rw [List.take_succ_eq_append_getElem lL];simp only [hL,bldL,List.getElem_map,List.getElem_range]
 have hEs: ∀(i:Nat) (li:i < ls.length),E.take (i+1)=E.take i++ [lkE ls l i]:=fun i li=>by
  have lE:i < E.length:=by omega
  rw [List.take_succ_eq_append_getElem lE];simp only [hE,bldE,List.getElem_map,List.getElem_range]
 have hLL: ∀x∈L,x.length≤1000000:=by
  intro x hx
  rw [hL,bldL] at hx
  obtain⟨i,hi,rfl⟩:=List.mem_map.1 hx
  rw [List.mem_range] at hi
  obtain⟨a,b,o,j,p,q,hf⟩:=link_f hw hi
  have gp:=hg _ (List.mem_of_getElem? hf.ha)
  have gq:=hg _ (List.mem_of_getElem? hf.hb)
  have hS2:=lkS_len hg (ls:=ls) i
  cases logs with
  | false=>show(lkG ls l i).length≤_;rw [hf.G];exact gq.inns _ (List.getElem_mem hf.hjl)
  | true=>
    show(restL _ _).length≤_
    have:=List.length_filter_le (fun m=>decide (m.1 ∉ keysM (lkG ls l i))) (allM 0 (lkS ls l i))
    rw [allM_len] at this
    exact Nat.le_trans this hS2
 rw [←hS,←hL,←hE] at good
 refine pcall0 200 (fn:=Tryz.f22) Tryz.func22 rfl (by simp [Tryz.ntmps22]) zB zB fun hs=>?_
 simp (maxSteps:=2000000) only [go_sem,simprocAttr,maxLen] at hs
 ((try refine zW ?_);(try with_reducible exact True.intro))
 (refine at_call 200 ?_;(refine zW ?_;try with_reducible exact True.intro);refine callA_of (R13Whole_spec ⟨N,ls,T,ff,room,acts⟩ l hl hT hg) zB ?_;((try refine zW ?_);(try with_reducible exact True.intro)))
 (try simp (maxSteps:=2000000) (disch:=omega) only [go_sem,simprocAttr,zD,zE,eW])
 refine walk_ownB 2 0 0 1 trivial rfl rfl rfl (.inl rfl) ?_
 simp only [List.set_cons_zero,List.set_cons_succ,Nat.reduceAdd]
 (refine walk_trim [1,2,3,6,8,9,57] trivial zL ?_;((try refine zW ?_);(try with_reducible exact True.intro)))
 refine walk_floop 200 200 (fun i:Nat × Nat=>i.1≤l.length)
  (fun i=>⟨153, [(1,lPs l),(2,scb logs),(3, .ptr 0 0 0 0),(6, .ptr 1 0 0 0),(8, .ptr 2 0 0 0),(9,sci .i64 i.1)], [],4, [(3, .arr 1 i.2 (ir eI (S.take i.1))),(2, .arr 3 0 [[.ref 3 i.2 0 i.1,nil0,nil0]]),(1, .arr 3 0 [[nil0,nil0,nil0]]),(0, .arr 4 0 [[sci .i64 N,lII ls, .p (.imm 2 (pr eNd T)),scb ff]])]⟩) (fun i=>l.length - i.1) (0,0) [] ?_ ?_ ?_
 ·simp
 ·constructor<;>(try simp (maxSteps:=2000000) (disch:=omega) only [go_sem,simprocAttr,zD,zE,Int.natCast_zero,List.take_of_length_le,List.append_assoc,List.take_zero])
 ·rintro⟨i,g⟩ hi
  simp only at hi
  ((try refine zW ?_);(try with_reducible exact True.intro))
  by_cases li:i < l.length
  ·have hpt:=hSs i li
   have htt:(S.take i).length=i:=by rw [List.length_take];omega
   have hmm:min i (min i S.length)=i:=by omega
   have hti:(S.take i).take i=S.take i:=by rw [List.take_take,Nat.min_self]
   have hst: ∀x:Int,List.map IV.p (eI x)= [.p (.sc (.int .i64 x))]:=fun _=>rfl
   generalize hp:l[i]=p at *
   (try simp (maxSteps:=2000000) (disch:=omega) only [go_sem,simprocAttr,zD,zE,ePc,hp])
   (refine walk_trim [1,2,3,6,8,9,57] trivial zL ?_;(refine zW ?_;try with_reducible exact True.intro);refine irun_walk (id:=7) (n:=200) [none,none,none,none,none,none,none,some [0,1],some [],none,some []] mixed (by kernel_rfl) ?_)
   (try simp (maxSteps:=2000000) (disch:=omega) only [go_sem,simprocAttr,zD,zE,ePc,hp,hmm])
   refine⟨(i+1,g+1), [],by first | assumption | omega,?_,?_⟩
   ·(try simp only []);omega
   ·constructor<;>(try simp (maxSteps:=2000000) (disch:=omega) only [go_sem,simprocAttr,zD,zE,hmm,hpt,hti,ir_snoc,List.append_assoc])
  ·obtain rfl:i=l.length:=by omega
   have e1:S.take l.length=S:=List.take_of_length_le (by omega)
   (try simp (maxSteps:=2000000) (disch:=omega) only [go_sem,simprocAttr,zD,zE,e1])
   refine walk_fcut 200 [3] ⟨153, [(1,lPs l),(2,scb logs),(3, .ptr 0 0 0 0),(6, .ptr 1 0 0 0),(8, .ptr 2 0 0 0),(10,sci .i64 0)], [],3, [(2, .arr 3 0 [[lI S,nil0,nil0]]),(1, .arr 3 0 [[nil0,nil0,nil0]]),(0, .arr 4 0 [[sci .i64 N,lII ls, .p (.imm 2 (pr eNd T)),scb ff]])]⟩ trivial ?_ ?_
   ·constructor<;>(try simp (maxSteps:=2000000) (disch:=omega) only [go_sem,simprocAttr,zD,zE,e1])
   refine walk_ownB 2 0 1 1 trivial rfl rfl rfl (.inr rfl) ?_
   simp only [List.set_cons_zero,List.set_cons_succ,Nat.reduceAdd]
   refine walk_ownB 2 0 2 1 trivial rfl rfl rfl (.inr rfl) ?_
   simp only [List.set_cons_zero,List.set_cons_succ,Nat.reduceAdd]
   (refine walk_trim [1,2,3,6,8,10,57] trivial zL ?_;((try refine zW ?_);(try with_reducible exact True.intro)))
   refine walk_floop 200 200 (fun i:Nat=>i≤ls.length∧(logs=true→ ∀k,k < i→LkOk ls l k))
    (fun i=>⟨153, [(1,lPs l),(2,scb logs),(3, .ptr 0 0 0 0),(6, .ptr 1 0 0 0),(8, .ptr 2 0 0 0),(10,sci .i64 i)], [],5,
     [(4, .arr 1 i (ir eI (E.take i))),(3, .arr 1 i (ir eMs (L.take i))),(2, .arr 3 0 [[lI S, .ref 3 i 0 i, .ref 4 i 0 i]]),(1, .arr 3 0 [[nil0,nil0,nil0]]),(0, .arr 4 0 [[sci .i64 N,lII ls, .p (.imm 2 (pr eNd T)),scb ff]])]⟩)
    (fun i=>ls.length - i) 0 [] ?_ ?_ ?_
   ·exact⟨Nat.zero_le _,fun _ k hk=>absurd hk (Nat.not_lt_zero k)⟩
   ·constructor<;>(try simp (maxSteps:=2000000) (disch:=omega) only [go_sem,simprocAttr,zD,zE,Int.natCast_zero,List.take_zero])
   ·rintro i ⟨hi,hinv⟩
    ((try refine zW ?_);(try with_reducible exact True.intro))
    by_cases li:i < ls.length
    ·obtain⟨a,b,o,j,p,q,hf⟩:=link_f hw li
     have hpt:=hLs i li
     have hpe:=hEs i li
     have ht1:(L.take i).length=i:=by rw [List.length_take];omega
     have ht2:(E.take i).length=i:=by rw [List.length_take];omega
     have ht3:(L.take i).take i=L.take i:=by rw [List.take_take,Nat.min_self]
     have ht4:(E.take i).take i=E.take i:=by rw [List.take_take,Nat.min_self]
     have hfS:=hf.S
     have hfG:=hf.G
     have hfE:=hf.E
     have hfk:LkOk ls l i↔ ∃k1:o < p.out.length,(p.out[o].length:Int)=p.sent[o]'hf.hol∧ ¬MixP p.out[o] (q.inn[j]'hf.hjl):=by
      unfold LkOk
      rw [hf.P,hf.O,hfG,hfE]
      exact⟨fun h=>⟨h.1,by rw [←hfS h.1];exact h.2.1,by rw [←hfS h.1];exact h.2.2⟩,fun⟨k1,h⟩=>⟨k1,by rw [hfS k1];exact h.1,by rw [hfS k1];exact h.2⟩⟩
     obtain⟨hx,ha,hb,hp,hq,ho,hol,hj,hjl,hoo,hjj,hP,hQ⟩:=hf
     have la:a < l.length:=lt_of_get ha
     have lb:b < l.length:=lt_of_get hb
     have gp:=hg _ (List.mem_of_getElem? ha)
     have gq:=hg _ (List.mem_of_getElem? hb)
     rw [List.getElem?_eq_getElem li] at hx
     rw [List.getElem?_eq_getElem la] at ha
     rw [List.getElem?_eq_getElem lb] at hb
     have hx:=Option.some.inj hx
     have ha:=Option.some.inj ha
     have hb:=Option.some.inj hb
     obtain⟨pn,ps,pt,pse,pi,po⟩:=p
     obtain⟨qn,qs,qt,qse,qi,qo⟩:=q
     simp only at hp hq hol hjl hfS hfG hfE hfk
     subst hp hq
     have hlen:qi[j].length≤1000000:=gq.inns _ (List.getElem_mem hjl)
     have hris:RisP 0 qi[j]:=by
      obtain⟨-, -,hQ⟩:=hQ
      obtain⟨-, -, -, -, -, -,hI, -⟩:=hQ
      exact hI j _ hjl (List.getElem?_eq_getElem hjl)
     have hm1: ∀m:List (Int × Int),(eMs m).map IV.p= [.p (.imm 2 (pr eII m))]:=fun _=>rfl
     rw [hfE] at hpe
     have mm1:min i (min i L.length)=i:=by omega
     have mm2:min i (min i E.length)=i:=by omega
     ((try refine zO ?_);(try with_reducible exact True.intro))
     (refine walk_trim [1,2,3,6,8,10] trivial zL ?_;(refine zW ?_;try with_reducible exact True.intro);refine irun_walk (id:=11) (n:=200) [none,none,none,none,none,none,none,none,none,none,none,none,none,none,none,none,none,none,none,none,some [0,1,2,3,4,5,6,7,8,9,10,11,12,13,14,15,16,17,18,19,21],some [0,1,2,3,4,5,6,7,8,9,10,11,12,13,14,15,16,17,18,19,20],some [10,11,12,13,14,15,16,17,18,19],some []] mixed (by kernel_rfl) ?_)
     (try simp (maxSteps:=2000000) (disch:=omega) only [go_sem,simprocAttr,zD,zE,eII,hx,ePc,ha,hb])
     (refine walk_trim [1,2,3,6,8,10,11,12,57] trivial zL ?_;(refine zW ?_;try with_reducible exact True.intro);refine irun_walk (id:=12) (n:=200) [none,none,none,none,some [5,7,8,9,10,12],none,some [7,8,9,10,12],none,none,none,none,some [12],none,some [],none,none] mixed (by kernel_rfl) ?_)
     ((try refine zO ?_);(try with_reducible exact True.intro))
     (refine at_dcall ?_;(refine zW ?_;try with_reducible exact True.intro);refine callA_of (R3Out_spec N a ls hl) zB ?_;((try refine zW ?_);(try with_reducible exact True.intro)))
     ((try refine zO ?_);(try with_reducible exact True.intro))
     (refine at_dcall ?_;(refine zW ?_;try with_reducible exact True.intro);refine callA_of (R9Place_spec _ _) zB ?_;((try refine zW ?_);(try with_reducible exact True.intro)))
     (try simp (maxSteps:=2000000) (disch:=omega) only [go_sem,simprocAttr,zD,zE,ho])
     (refine at_dcall ?_;(refine zW ?_;try with_reducible exact True.intro);refine callA_of (R3In_spec N b ls hl) zB ?_;((try refine zW ?_);(try with_reducible exact True.intro)))
     ((try refine zO ?_);(try with_reducible exact True.intro))
     (refine at_dcall ?_;(refine zW ?_;try with_reducible exact True.intro);refine callA_of (R9Place_spec _ _) zB ?_;((try refine zW ?_);(try with_reducible exact True.intro)))
     (try simp (maxSteps:=2000000) (disch:=omega) only [go_sem,simprocAttr,zD,zE,hj,eMs])
     cases logs with
     | false=>
       ((try refine zO ?_);(try with_reducible exact True.intro))
       (refine walk_trim [1,2,3,6,8,10,11,13,15,57] trivial zL ?_;(refine zW ?_;try with_reducible exact True.intro);refine irun_walk (id:=18) (n:=200) [none,none,none,none,none,none,none,some [0,1],some [],none,some []] mixed (by kernel_rfl) ?_)
       (try simp (maxSteps:=2000000) (disch:=omega) only [go_sem,simprocAttr,zD,zE,eI,mm1,mm2])
       have hpt2:L.take (i+1)=L.take i++ [qi[j]]:=by rw [hpt,←hfG];rfl
       refine⟨i+1, [],li,by omega,?_⟩
       clear hfk bad good hinv hLs hSs hEs hLL
       constructor
       case blks=>
        (try simp (maxSteps:=2000000) (disch:=omega) only [go_sem,simprocAttr,zD,zE,hpt2,hpe,ht3,ht4,mm1,mm2,ir_snoc,hm1])
        exact⟨trivial,trivial⟩
       all_goals(try simp (maxSteps:=2000000) (disch:=omega) only [go_sem,simprocAttr,zD,zE,mm1,mm2])
     | true=>
       have hpt2: ∀k1:o < po.length,L.take (i+1)=L.take i++ [restL po[o] qi[j]]:=fun k1=>by rw [hpt,←hfG,←hfS k1];rfl
       ((try refine zO ?_);(try with_reducible exact True.intro))
       (refine walk_trim [1,2,3,6,8,10,11,12,13,14,57] trivial zL ?_;(refine zW ?_;try with_reducible exact True.intro);refine irun_walk (id:=15) (n:=200) [none,none,none,none,none,none,none,none,none,none,none,none,none,none,none,none,none,none,none,none,none,none,none,none,none,none,none,none,none,none,some [],none] mixed (by kernel_rfl) ?_)
       by_cases k1:o < po.length
       rotate_left
       ·have e:=bad fun h=>k1 (hfk.1 (h.2.1 rfl i li)).1
        rw [e]
        ((try refine zO ?_);(try with_reducible exact True.intro))
       by_cases k2:(po[o].length:Int)=pse[o]
       rotate_left
       ·have e:=bad fun h=>k2 (hfk.1 (h.2.1 rfl i li)).2.1
        have k2':((po[o].length:Int) != pse[o])=true:=bne_iff_ne.2 k2
        rw [e]
        (try simp (maxSteps:=2000000) (disch:=omega) only [go_sem,simprocAttr,zD,zE,eI,eMs,eLs,k2'])
       have k2':((po[o].length:Int) != pse[o])=false:=by rw [k2];exact bne_self_eq_false _
       have hlen2:po[o].length≤1000000:=gp.outs _ (List.getElem_mem k1)
       have hmd:=mixD_P (out:=po[o]) hris
       (try simp (maxSteps:=2000000) (disch:=omega) only [go_sem,simprocAttr,zD,zE,eI,eMs,eLs,k2'])
       (refine at_dcall ?_;(refine zW ?_;try with_reducible exact True.intro);refine callA_of (R11Mixed_spec po[o] qi[j] hlen2 hlen) zB ?_;((try refine zW ?_);(try with_reducible exact True.intro)))
       by_cases k3:MixP po[o] qi[j]
       ·have e:=bad fun h=>(hfk.1 (h.2.1 rfl i li)).2.2 k3
        have k3':=tB_pos k3
        rw [e]
        (try simp (maxSteps:=2000000) (disch:=omega) only [go_sem,simprocAttr,zD,zE,hmd,k3'])
       have k3':=tB_neg k3
       have hk:=hfk.2 ⟨k1,k2,k3⟩
       have hpt2:=hpt2 k1
       (try simp (maxSteps:=2000000) (disch:=omega) only [go_sem,simprocAttr,zD,zE,hmd,k3'])
       (refine walk_trim [1,2,3,6,8,10,11,12,13,14,57] trivial zL ?_;(refine zW ?_;try with_reducible exact True.intro);refine irun_walk (id:=17) (n:=200) [none,none,none,none,none,none,none,none,none,none,some [],none] mixed (by kernel_rfl) ?_)
       (try simp (maxSteps:=2000000) (disch:=omega) only [go_sem,simprocAttr,zD,zE,eI,eMs,eLs])
       (refine at_dcall ?_;(refine zW ?_;try with_reducible exact True.intro);refine callA_of (R11Rest_spec po[o] qi[j] hlen2) zB ?_;((try refine zW ?_);(try with_reducible exact True.intro)))
       ((try refine zO ?_);(try with_reducible exact True.intro))
       (refine walk_trim [1,2,3,6,8,10,11,13,15,57] trivial zL ?_;(refine zW ?_;try with_reducible exact True.intro);refine irun_walk (id:=18) (n:=200) [none,none,none,none,none,none,none,some [0,1],some [],none,some []] mixed (by kernel_rfl) ?_)
       (try simp (maxSteps:=2000000) (disch:=omega) only [go_sem,simprocAttr,zD,zE,eI,mm1,mm2])
       refine⟨i+1, [],⟨li,fun k hk2=>by
        rcases Nat.lt_or_ge k i with q | q
        ·exact hinv rfl k q
        ·obtain rfl:k=i:=by omega
         exact hk⟩,by omega,?_⟩
       clear hfk bad good hinv hLs hSs hEs hLL
       constructor
       case blks=>
        (try simp (maxSteps:=2000000) (disch:=omega) only [go_sem,simprocAttr,zD,zE,hpt2,hpe,ht3,ht4,mm1,mm2,ir_snoc,hm1])
        exact⟨trivial,trivial⟩
       all_goals(try simp (maxSteps:=2000000) (disch:=omega) only [go_sem,simprocAttr,zD,zE,mm1,mm2])
    ·obtain rfl:i=ls.length:=by omega
     have e1:L.take ls.length=L:=List.take_of_length_le (by omega)
     have e2:E.take ls.length=E:=List.take_of_length_le (by omega)
     (try simp (maxSteps:=2000000) (disch:=omega) only [go_sem,simprocAttr,zD,zE,e1,e2])
     refine walk_fcut 200 [3,4] ⟨153, [(1,lPs l),(3, .ptr 0 0 0 0),(6, .ptr 1 0 0 0),(8, .ptr 2 0 0 0),(147, .agg [sci .i64 N,lII ls, .p (.imm 2 (pr eNd T)),scb ff]),(148,lCf S L E)], [],3, [(2, .arr 3 0 [[lI S,lMs L,lI E]]),(1, .arr 3 0 [[nil0,nil0,nil0]]),(0, .arr 4 0 [[sci .i64 N,lII ls, .p (.imm 2 (pr eNd T)),scb ff]])]⟩ trivial ?_ ?_
     ·constructor<;>(try simp (maxSteps:=2000000) (disch:=omega) only [go_sem,simprocAttr,zD,zE,e1,e2])
     ((try refine zW ?_);(try with_reducible exact True.intro))
     (refine at_call 200 ?_;(refine zW ?_;try with_reducible exact True.intro);refine callA_of (R5Right_spec N ls T ff S L E hT hl hLL) zB ?_;((try refine zW ?_);(try with_reducible exact True.intro)))
     by_cases hC:ConfP N ls T S L E
     ·have eC:=tB_pos hC
      rw [good ⟨hw,fun h=>hinv h,by rw [←hS,←hL,←hE];exact hC⟩]
      (try simp (maxSteps:=2000000) (disch:=omega) only [go_sem,simprocAttr,zD,zE,eC])
     ·have eC:=tB_neg hC
      have e:=bad fun h=>hC (by have:=h.2.2;rw [←hS,←hL,←hE] at this;exact this)
      rw [e]
      (try simp (maxSteps:=2000000) (disch:=omega) only [go_sem,simprocAttr,zD,zE,eC])
end Go.Proofs.GY
