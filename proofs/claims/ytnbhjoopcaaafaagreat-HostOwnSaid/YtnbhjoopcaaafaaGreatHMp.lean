/- An end whose new blocks are numbered at will; a pick's sends with the generations of the lists. -/
import Derived.Test.YtnbhjoopcaaafaaGreatHMb
import Derived.Test.YtnbhjoopcaaafaaGreatHPl
set_option linter.unusedSimpArgs false
set_option linter.unusedVariables false
namespace Go.Proofs.HO
open Go Go.Idl Go.Proofs Go.GP
section
variable {P:Program} {fn:Func} {m:List (Nat × IBlk)} {c:Nat} {x:IV} {W:List (Nat × IBlk)} {N:Nat} {s:List (Nat × IV)} {nx:Nat} {l:List (Nat × IBlk)}
theorem rsel_nu {ν:Nat→Nat} {i:Nat} (h:i < c):rsel 0 ((List.range c).map ν) i=ν i:=by
 unfold rsel
 rw [if_neg (Nat.not_lt_zero _),Nat.sub_zero,List.getD_eq_getElem?_getD,List.getElem?_map,List.getElem?_range h]
 rfl
theorem nin_of {b:Nat}: ∀ {r:List Nat},b ∉ r→apartN.nin b r
 | [],_=>trivial
 | a::r,h=>⟨fun e=>h (by simp [e]),nin_of fun q=>h (by simp [q])⟩
theorem apartN_of: ∀ {r:List Nat},r.Nodup→apartN r
 | [],_=>trivial
 | a::r,h=>⟨nin_of (List.nodup_cons.1 h).1,apartN_of (List.nodup_cons.1 h).2⟩
theorem EndG_nu (ν:Nat→Nat) {e:Exit} (he:e= .normal∨e= .ret) (hinj: ∀i j,i < c→j < c→ν i=ν j→i=j) (hx:ires P ⟨N,s, [],nx,l⟩ (l++m) fn.results.toList=some (rnm ν x)) (hb:bel c x) (hW:allLow c W)
  (hs:allSeen (Idl.look (l++m)) (rnL ν W)):EndG P fn 0 m c x W e ⟨N,s, [],nx,l⟩:=by
 have hk: ∀i,i < c→rsel 0 ((List.range c).map ν) i=ν i:=fun i hi=>rsel_nu hi
 have hWe:rnL (rsel 0 ((List.range c).map ν)) W=rnL ν W:=by
  have h:=allLow_mem hW
  refine List.map_congr_left fun p hp=>?_
  obtain⟨h1,h2⟩:=h p hp
  show(_,_)=(_,_)
  rw [hk _ h1,rnB_congr (K:=(· < c)) hk (blkIn_bel h2)]
 have hxe:rnm (rsel 0 ((List.range c).map ν)) x=rnm ν x:=rnm_congr (K:=(· < c)) hk _ (within_bel x hb)
 have hend:endG P fn 0 m c x W ((List.range c).map ν) ⟨N,s, [],nx,l⟩:=by
  rw [endG_eq,hx,onSome_some,hxe,hWe]
  refine⟨fzv_refl _,?_,of_eq_true allIn_zero⟩
  clear hWe hW
  generalize rnL ν W=V at *
  induction V with
  | nil=>trivial
  | cons p V ih=>
    refine⟨?_,ih hs.2⟩
    rw [hs.1,onSome_some]
    cases hp:p.2 with
    | arr sz g rows=>exact⟨rfl,rfl,fzRs_refl _⟩
    | mp es=>exact fzEs_refl _
 have hn:((List.range c).map ν).length=c∧geAll 0 ((List.range c).map ν)∧apartN ((List.range c).map ν):=by
  refine⟨by simp,of_eq_true geAll_zero,apartN_of ?_⟩
  have h1:(List.range c).Nodup:=List.nodup_range
  show List.Pairwise _ _
  rw [List.pairwise_map]
  exact List.Pairwise.imp_of_mem (fun {a b} ha hb hab q=>hab (hinj a b (List.mem_range.1 ha) (List.mem_range.1 hb) q)) h1
 rcases he with rfl | rfl
 ·exact⟨rfl,Nat.zero_le _,_,hn,hend⟩
 ·exact⟨rfl,Nat.zero_le _,_,hn,hend⟩
end
def pkGoF (ls:List (Int × Int)) (n:Int):List (Int × Int)→List (Nat × List Int)→List (Int × Int × Int)→Option (List (Nat × List Int) × List (Int × Int × Int))
 | [],cur,sent=>some (cur,sent)
 | s::r,cur,sent=>
   match cur[(indexL (findL n s.1 0 ls) 0 (outs n 0 ls)).toNat]? with
   | none=>none
   | some o=>
     if 500≤o.2.length then none
     else pkGoF ls n r (cur.set (indexL (findL n s.1 0 ls) 0 (outs n 0 ls)).toNat (o.1+1,o.2++ [s.2])) (sent++ [(findL n s.1 0 ls,(o.2.length:Int)+1,s.2)])
theorem pkGoF_of {ls:List (Int × Int)} {n:Int}: ∀ {sends:List (Int × Int)} {cur:List (Nat × List Int)} {sent:List (Int × Int × Int)} {r:List (List Int) × List (Int × Int × Int)},
  (∀y∈sends,(n,y.1)∈ls)→cur.length=(outs n 0 ls).length→pkGo ls n sends (cur.map (·.2)) sent=some r→ ∃cur',pkGoF ls n sends cur sent=some (cur',r.2)∧cur'.map (·.2)=r.1∧cur'.length=cur.length
 | [],cur,sent,r,_,_,h=>by
   unfold pkGo at h
   cases h
   exact⟨cur,rfl,rfl,rfl⟩
 | s::sends,cur,sent,r,hm,ho,h=>by
   unfold pkGo at h
   unfold pkGoF
   obtain⟨q,e,hq⟩:=findOut (hm s (by simp))
   have lq:q < cur.length:=by omega
   have hcq:(cur.map (·.2))[q]? =some cur[q].2:=by rw [List.getElem?_map,List.getElem?_eq_getElem lq];rfl
   rw [e,Int.toNat_natCast,hcq,Option.getD_some] at h
   rw [e,Int.toNat_natCast,List.getElem?_eq_getElem lq]
   split at h
   ·cases h
   rename_i c
   simp only [c,if_false]
   have hs:(cur.map (·.2)).set q (cur[q].2++ [s.2])=(cur.set q (cur[q].1+1,cur[q].2++ [s.2])).map (·.2):=by rw [List.map_set]
   rw [hs] at h
   obtain⟨cur',h1,h2,h3⟩:=pkGoF_of (fun y hy=>hm y (by simp [hy])) (by rw [List.length_set];exact ho) h
   exact⟨cur',h1,h2,by rw [h3,List.length_set]⟩
end Go.Proofs.HO
