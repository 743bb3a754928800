/- Facts that the proofs of this claim lean on. -/
import Derived.Test.YtnbhjoopcaaafaaGreatHPl
import Derived.Test.YtnbhjoopcaaafaaGreatHTl
import Derived.Test.YtnbhjoopcaaafaaGreatHP10
set_option linter.unusedSimpArgs false
set_option linter.unusedVariables false
/- What a pick and a take count: the plain law. -/
namespace Go.Proofs.HO
open Go Go.Idl Go.Proofs Go.GP
def cnt (l:Int) (S:List (Int × Int × Int)):Nat:=S.countP (fun e=>e.1==l)
theorem pickH_cases {ls:List (Int × Int)} {st:St} {h:Hs} {k:Int}:(∃e:Int,e≠0∧pickH ls st h k=(zHs, [],e))∨
  ∃p out sent,p∈st.picks∧pkGo ls h.node p.2 h.out []=some (out,sent)∧pickH ls st h k=(⟨h.node,p.1,h.steps+1,h.inn,out⟩,sent,0):=by
 unfold pickH
 split
 ·exact .inl ⟨8,by decide,rfl⟩
 split
 ·exact .inl ⟨3,by decide,rfl⟩
 cases h3:st.picks[k.toNat]? with
 | none=>exact .inl ⟨3,by decide,rfl⟩
 | some p=>
   simp only
   cases h4:pkGo ls h.node p.2 h.out [] with
   | none=>exact .inl ⟨2,by decide,rfl⟩
   | some r=>exact .inr ⟨p,r.1,r.2,List.mem_of_getElem? h3,h4,rfl⟩
end Go.Proofs.HO
/- In whichever order messages are taken: the law's walk. -/
namespace Go.Proofs.HO
open Go Go.Idl Go.Proofs Go.GP
set_option maxHeartbeats 20000000
set_option maxRecDepth 100000
theorem takenL_in {f a d:Int} {m:Nat}: ∀ {l:List (Int × Int × Int)},(∀t∈l,StaP m t.2.2)→StaP m d→StaP m (takenL f a d l)
 | [],_,h=>h
 | t::r,h,hd=>by
   unfold takenL
   split
   ·exact h t (by simp)
   ·exact takenL_in (fun x hx=>h x (by simp [hx])) hd
theorem ris_pw: ∀ {last:Int} {l:List (Int × Int)},RisP last l→l.Pairwise (fun a b=>a.1 < b.1)∧ ∀x∈l,last < x.1
 | _, [],_=>by simp
 | last,x::r,h=>by
   obtain⟨h1,h2⟩:=ris_pw h.2
   have h0:=h.1.1
   exact⟨List.pairwise_cons.2 ⟨h2,h1⟩,fun y hy=>by
    rcases List.mem_cons.1 hy with rfl | hy
    ·exact h0
    ·have:=h2 y hy;omega⟩
def rng (a:Nat):List Int:=(List.range a).map fun q:Nat=>(q:Int)
end Go.Proofs.HO
