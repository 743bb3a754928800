/- The full graphs; how many steps a snapshot takes. -/
import Derived.Test.YtiahkkkgomoifaaGreatFAa
set_option linter.unusedSimpArgs false
set_option linter.unusedVariables false
namespace Go.Proofs.FA
open Go Go.Idl Go.Proofs Go.GP
set_option maxHeartbeats 20000000
set_option maxRecDepth 100000
abbrev eG (N:Int) (ls:List (Int × Int)):IV:= .agg [sci .i64 N,lII ls]
def rowL (a:Nat):Nat→List (Int × Int)
 | 0=> []
 | m+1=>if a=m then rowL a m else rowL a m++ [((a:Int),(m:Int))]
def fullTo (k:Nat):Nat→List (Int × Int)
 | 0=> []
 | a+1=>fullTo k a++rowL a k
def cl (n:Int):Int:=if 6 < (if n < 1 then 1 else n) then 6 else(if n < 1 then 1 else n)
theorem rowL_len (a:Nat): ∀m,(rowL a m).length≤m
 | 0=>Nat.le_refl _
 | m+1=>by
   have:=rowL_len a m
   unfold rowL
   split
   ·omega
   ·rw [List.length_append,List.length_singleton];omega
theorem fullTo_len (k:Nat): ∀a,(fullTo k a).length≤a * k
 | 0=>by simp [fullTo]
 | a+1=>by
   have:=fullTo_len k a
   have:=rowL_len a k
   unfold fullTo
   rw [List.length_append,Nat.add_mul];omega
theorem Full_spec (n:Int) (k:Nat) (hk:1≤k∧k≤6) (e:cl n=k):Pure Tryz.prog 17 [sci .i64 n] (eG k (fullTo k k)):=by
 have hb: ∀a b,a < k→b≤k→(fullTo k a++rowL a b).length≤50:=by
  intro a b ha hb
  have h1:=fullTo_len k a
  have h2:=rowL_len a b
  have:a * k≤6 * 6:=Nat.mul_le_mul (by omega) hk.2
  rw [List.length_append];omega
 unfold cl at e
 refine pcall0 200 (fn:=Tryz.f17) Tryz.func17 rfl (by simp [Tryz.ntmps17]) zB zB fun hs=>?_
 (try simp only [go_sem,simprocAttr,e])
 (refine walk_trim [2,3,11,12,24] trivial zL ?_;((try refine zW ?_);(try with_reducible exact True.intro)))
 refine walk_floop 200 200 (fun i:Nat × Bool × Nat=>i.1≤k∧(i.2.1=true→fullTo k i.1= [])∧(fullTo k i.1).length≤50)
  (fun i=>match i.2.1 with
   | true=>⟨34, [(2, .ptr 0 0 0 0),(3, .ptr 1 0 0 0),(11,sci .i64 k),(12,sci .i64 i.1)], [],2, [(1, .arr 2 0 [[sci .i64 k, .p (.sc (.slice none 0 0))]]),(0, .arr 2 0 [[sci .i64 0, .p (.sc (.slice none 0 0))]])]⟩
   | false=>⟨34, [(2, .ptr 0 0 0 0),(3, .ptr 1 0 0 0),(11,sci .i64 k),(12,sci .i64 i.1)], [],3, [(2, .arr 2 i.2.2 (ir eII (fullTo k i.1))),(1, .arr 2 0 [[sci .i64 k, .ref 2 i.2.2 0 (fullTo k i.1).length]]),(0, .arr 2 0 [[sci .i64 0, .p (.sc (.slice none 0 0))]])]⟩)
  (fun i=>k - i.1) (0,true,0) [] ?_ ?_ ?_
 ·exact⟨Nat.zero_le _,fun _=>rfl,by simp [fullTo]⟩
 ·constructor<;>(try simp (disch:=omega) only [go_sem,simprocAttr,zD,zE,Int.natCast_zero])
 ·rintro⟨a,ph,g⟩ ⟨h1,h2,h3⟩
  simp only at h1 h2 h3
  cases ph
  ·((try refine zW ?_);(try with_reducible exact True.intro))
   by_cases ha:a < k
   ·((try refine zO ?_);(try with_reducible exact True.intro))
    (refine walk_trim [2,3,4,11,12,16,17,24] trivial zL ?_;((try refine zW ?_);(try with_reducible exact True.intro)))
    refine walk_floop 200 200 (fun j:Nat × Bool × Nat=>j.1≤k∧(j.2.1=true→fullTo k a++rowL a j.1= []))
     (fun j=>match j.2.1 with
      | true=>⟨34, [(2, .ptr 0 0 0 0),(3, .ptr 1 0 0 0),(4,sci .i64 a),(11,sci .i64 k),(12,sci .i64 a),(16,sci .i64 k),(17,sci .i64 j.1)], [],2, [(1, .arr 2 0 [[sci .i64 k, .p (.sc (.slice none 0 0))]]),(0, .arr 2 0 [[sci .i64 0, .p (.sc (.slice none 0 0))]])]⟩
      | false=>⟨34, [(2, .ptr 0 0 0 0),(3, .ptr 1 0 0 0),(4,sci .i64 a),(11,sci .i64 k),(12,sci .i64 a),(16,sci .i64 k),(17,sci .i64 j.1)], [],3, [(2, .arr 2 j.2.2 (ir eII (fullTo k a++rowL a j.1))),(1, .arr 2 0 [[sci .i64 k, .ref 2 j.2.2 0 (fullTo k a++rowL a j.1).length]]),(0, .arr 2 0 [[sci .i64 0, .p (.sc (.slice none 0 0))]])]⟩)
     (fun j=>k - j.1) (0,false,g) [] ?_ ?_ ?_
    ·exact⟨Nat.zero_le _,by simp⟩
    ·constructor<;>(try simp (disch:=omega) only [go_sem,simprocAttr,zD,zE,Int.natCast_zero,rowL,List.append_nil])
    ·rintro⟨b,ph,g⟩ ⟨j1,j2⟩
     simp only at j1 j2
     have hf:fullTo k (a+1)=fullTo k a++rowL a k:=rfl
     by_cases hj:b < k
     ·have hlen:=hb a b ha (by omega)
      have hlen1:=hb a (b+1) ha (by omega)
      obtain⟨acc,hacc⟩: ∃acc,fullTo k a++rowL a b=acc:=⟨_,rfl⟩
      have hl0:(fullTo k a).length+(rowL a b).length=acc.length:=by rw [←hacc,List.length_append]
      rw [hacc] at hlen j2
      cases ph
      ·simp only [hacc]
       ((try refine zW ?_);(try with_reducible exact True.intro))
       ((try refine zO ?_);(try with_reducible exact True.intro))
       by_cases hab:(a:Int)=(b:Int)
       ·have er:rowL a (b+1)=rowL a b:=by rw [rowL,if_pos (by omega)]
        (try simp (disch:=omega) only [go_sem,simprocAttr,zD,zE,hab])
        refine⟨(b+1,false,g), [],⟨by simp only;omega,by simp⟩,by simp only;omega,?_⟩
        simp only [er,hacc]
        constructor<;>(try simp (disch:=omega) only [go_sem,simprocAttr,zD,zE,hab,hl0])
       ·have ea:fullTo k a++rowL a (b+1)=acc++ [((a:Int),(b:Int))]:=by rw [rowL,if_neg (by omega),←List.append_assoc,hacc]
        have hh:((a:Int)=(b:Int))=False:=eq_false hab
        (try simp (disch:=omega) only [go_sem,simprocAttr,zD,zE,hh])
        refine⟨(b+1,false,g+1), [],⟨by simp only;omega,by simp⟩,by simp only;omega,?_⟩
        have el:(fullTo k a).length+(rowL a (b+1)).length=acc.length+1:=by simpa using congrArg List.length ea
        simp only [ea]
        constructor<;>(try simp (disch:=omega) only [go_sem,simprocAttr,zD,zE,el,ir_snoc,eII,List.map_cons,List.map_nil])
      ·have j2:=j2 rfl
       rw [←hacc] at j2
       ((try refine zW ?_);(try with_reducible exact True.intro))
       ((try refine zO ?_);(try with_reducible exact True.intro))
       by_cases hab:(a:Int)=(b:Int)
       ·have er:rowL a (b+1)=rowL a b:=by rw [rowL,if_pos (by omega)]
        (try simp (disch:=omega) only [go_sem,simprocAttr,zD,zE,hab])
        refine⟨(b+1,true,g), [],⟨by simp only;omega,fun _=>by simp only [er];exact j2⟩,by simp only;omega,?_⟩
        constructor<;>(try simp (disch:=omega) only [go_sem,simprocAttr,zD,zE,er,hab])
       ·have er:rowL a (b+1)=rowL a b++ [((a:Int),(b:Int))]:=by rw [rowL,if_neg (by omega)]
        have ea:fullTo k a++rowL a (b+1)= [((a:Int),(b:Int))]:=by rw [er,←List.append_assoc,j2,List.nil_append]
        have hh:((a:Int)=(b:Int))=False:=eq_false hab
        (try simp (disch:=omega) only [go_sem,simprocAttr,zD,zE,hh])
        refine⟨(b+1,false,0), [],⟨by simp only;omega,by simp⟩,by simp only;omega,?_⟩
        have el:(fullTo k a).length+(rowL a (b+1)).length=1:=by simpa using congrArg List.length ea
        simp only [ea]
        constructor<;>(try simp (disch:=omega) only [go_sem,simprocAttr,zD,zE,ir,eII,List.map_cons,List.map_nil,el])
     ·obtain rfl:b=k:=by omega
      have hlen:=hb a b ha (by omega)
      cases ph
      ·((try refine zO ?_);(try with_reducible exact True.intro))
       refine⟨(a+1,false,g), [],⟨by simp only;omega,by simp,by simp only;rw [hf];exact hlen⟩,by simp only;omega,?_⟩
       constructor<;>(try simp (disch:=omega) only [go_sem,simprocAttr,zD,zE,hf])
      ·((try refine zO ?_);(try with_reducible exact True.intro))
       refine⟨(a+1,true,g), [],⟨by simp only;omega,fun _=>by simp only;rw [hf];exact j2 rfl,by simp only;rw [hf];exact hlen⟩,by simp only;omega,?_⟩
       constructor<;>(try simp (disch:=omega) only [go_sem,simprocAttr,zD,zE,hf])
   ·obtain rfl:a=k:=by omega
    ((try refine zO ?_);(try with_reducible exact True.intro))
  ·have h2:=h2 rfl
   ((try refine zW ?_);(try with_reducible exact True.intro))
   by_cases ha:a < k
   ·((try refine zO ?_);(try with_reducible exact True.intro))
    (refine walk_trim [2,3,4,11,12,16,17,24] trivial zL ?_;((try refine zW ?_);(try with_reducible exact True.intro)))
    refine walk_floop 200 200 (fun j:Nat × Bool × Nat=>j.1≤k∧(j.2.1=true→fullTo k a++rowL a j.1= []))
     (fun j=>match j.2.1 with
      | true=>⟨34, [(2, .ptr 0 0 0 0),(3, .ptr 1 0 0 0),(4,sci .i64 a),(11,sci .i64 k),(12,sci .i64 a),(16,sci .i64 k),(17,sci .i64 j.1)], [],2, [(1, .arr 2 0 [[sci .i64 k, .p (.sc (.slice none 0 0))]]),(0, .arr 2 0 [[sci .i64 0, .p (.sc (.slice none 0 0))]])]⟩
      | false=>⟨34, [(2, .ptr 0 0 0 0),(3, .ptr 1 0 0 0),(4,sci .i64 a),(11,sci .i64 k),(12,sci .i64 a),(16,sci .i64 k),(17,sci .i64 j.1)], [],3, [(2, .arr 2 j.2.2 (ir eII (fullTo k a++rowL a j.1))),(1, .arr 2 0 [[sci .i64 k, .ref 2 j.2.2 0 (fullTo k a++rowL a j.1).length]]),(0, .arr 2 0 [[sci .i64 0, .p (.sc (.slice none 0 0))]])]⟩)
     (fun j=>k - j.1) (0,true,g) [] ?_ ?_ ?_
    ·exact⟨Nat.zero_le _,fun _=>by simp only [rowL,List.append_nil];exact h2⟩
    ·constructor<;>(try simp (disch:=omega) only [go_sem,simprocAttr,zD,zE,Int.natCast_zero,rowL,List.append_nil])
    ·rintro⟨b,ph,g⟩ ⟨j1,j2⟩
     simp only at j1 j2
     have hf:fullTo k (a+1)=fullTo k a++rowL a k:=rfl
     by_cases hj:b < k
     ·have hlen:=hb a b ha (by omega)
      have hlen1:=hb a (b+1) ha (by omega)
      obtain⟨acc,hacc⟩: ∃acc,fullTo k a++rowL a b=acc:=⟨_,rfl⟩
      have hl0:(fullTo k a).length+(rowL a b).length=acc.length:=by rw [←hacc,List.length_append]
      rw [hacc] at hlen j2
      cases ph
      ·simp only [hacc]
       ((try refine zW ?_);(try with_reducible exact True.intro))
       ((try refine zO ?_);(try with_reducible exact True.intro))
       by_cases hab:(a:Int)=(b:Int)
       ·have er:rowL a (b+1)=rowL a b:=by rw [rowL,if_pos (by omega)]
        (try simp (disch:=omega) only [go_sem,simprocAttr,zD,zE,hab])
        refine⟨(b+1,false,g), [],⟨by simp only;omega,by simp⟩,by simp only;omega,?_⟩
        simp only [er,hacc]
        constructor<;>(try simp (disch:=omega) only [go_sem,simprocAttr,zD,zE,hab,hl0])
       ·have ea:fullTo k a++rowL a (b+1)=acc++ [((a:Int),(b:Int))]:=by rw [rowL,if_neg (by omega),←List.append_assoc,hacc]
        have hh:((a:Int)=(b:Int))=False:=eq_false hab
        (try simp (disch:=omega) only [go_sem,simprocAttr,zD,zE,hh])
        refine⟨(b+1,false,g+1), [],⟨by simp only;omega,by simp⟩,by simp only;omega,?_⟩
        have el:(fullTo k a).length+(rowL a (b+1)).length=acc.length+1:=by simpa using congrArg List.length ea
        simp only [ea]
        constructor<;>(try simp (disch:=omega) only [go_sem,simprocAttr,zD,zE,el,ir_snoc,eII,List.map_cons,List.map_nil])
      ·have j2:=j2 rfl
       rw [←hacc] at j2
       ((try refine zW ?_);(try with_reducible exact True.intro))
       ((try refine zO ?_);(try with_reducible exact True.intro))
       by_cases hab:(a:Int)=(b:Int)
       ·have er:rowL a (b+1)=rowL a b:=by rw [rowL,if_pos (by omega)]
        (try simp (disch:=omega) only [go_sem,simprocAttr,zD,zE,hab])
        refine⟨(b+1,true,g), [],⟨by simp only;omega,fun _=>by simp only [er];exact j2⟩,by simp only;omega,?_⟩
        constructor<;>(try simp (disch:=omega) only [go_sem,simprocAttr,zD,zE,er,hab])
       ·have er:rowL a (b+1)=rowL a b++ [((a:Int),(b:Int))]:=by rw [rowL,if_neg (by omega)]
        have ea:fullTo k a++rowL a (b+1)= [((a:Int),(b:Int))]:=by rw [er,←List.append_assoc,j2,List.nil_append]
        have hh:((a:Int)=(b:Int))=False:=eq_false hab
        (try simp (disch:=omega) only [go_sem,simprocAttr,zD,zE,hh])
        refine⟨(b+1,false,0), [],⟨by simp only;omega,by simp⟩,by simp only;omega,?_⟩
        have el:(fullTo k a).length+(rowL a (b+1)).length=1:=by simpa using congrArg List.length ea
        simp only [ea]
        constructor<;>(try simp (disch:=omega) only [go_sem,simprocAttr,zD,zE,ir,eII,List.map_cons,List.map_nil,el])
     ·obtain rfl:b=k:=by omega
      have hlen:=hb a b ha (by omega)
      cases ph
      ·((try refine zO ?_);(try with_reducible exact True.intro))
       refine⟨(a+1,false,g), [],⟨by simp only;omega,by simp,by simp only;rw [hf];exact hlen⟩,by simp only;omega,?_⟩
       constructor<;>(try simp (disch:=omega) only [go_sem,simprocAttr,zD,zE,hf])
      ·((try refine zO ?_);(try with_reducible exact True.intro))
       refine⟨(a+1,true,g), [],⟨by simp only;omega,fun _=>by simp only;rw [hf];exact j2 rfl,by simp only;rw [hf];exact hlen⟩,by simp only;omega,?_⟩
       constructor<;>(try simp (disch:=omega) only [go_sem,simprocAttr,zD,zE,hf])
   ·obtain rfl:a=k:=by omega
    (try simp (disch:=omega) only [go_sem,simprocAttr,zD,zE,h2])
def bnd (L N w p:Int):Int:=(if w < 0 then 0 else w) * ((if p < 0 then 0 else p)+2 * L+N)
theorem Bound_spec (N:Int) (ls:List (Int × Int)) (w p:Int) (hN:0≤N∧N≤8) (hl:ls.length≤100) (hw: -2000≤w∧w≤2000) (hp: -2000≤p∧p≤2000):
  Pure Tryz.prog 18 [eG N ls,sci .i64 w,sci .i64 p] (sci .i64 (bnd ls.length N w p)):=by
 have hb:0≤bnd ls.length N w p∧bnd ls.length N w p≤100000000:=by
  unfold bnd
  have h1:0≤(if w < 0 then 0 else w)∧(if w < 0 then 0 else w)≤2000:=by split<;>omega
  have h2:0≤((if p < 0 then 0 else p)+2 * (ls.length:Int)+N)∧((if p < 0 then 0 else p)+2 * (ls.length:Int)+N)≤3000:=by split<;>omega
  exact⟨Int.mul_nonneg h1.1 h2.1,Int.le_trans (Int.mul_le_mul h1.2 h2.2 h2.1 (by omega)) (by decide)⟩
 unfold bnd at hb
 have h2:0≤(if p < 0 then 0 else p)∧(if p < 0 then 0 else p)≤2000:=by split<;>omega
 refine pcall0 200 (fn:=Tryz.f18) Tryz.func18 rfl (by simp [Tryz.ntmps18]) zB zB fun hs=>?_
 ((try refine zO ?_);(try with_reducible exact True.intro))
 simp only [bnd]
end Go.Proofs.FA
