/-
 A literal of its own in a region that draws its order.
-/
import Derived.Test.YtnbhjoopcaaafaaGreatIdIn
set_option linter.unusedSimpArgs false
set_option linter.unusedVariables false
namespace Go.Idl
variable {P:Program} {h0:IH}
theorem lit_own {o:Oper} {ρ:Operand→Option IV} {nx:Nat} {t:TypeId} {len:Nat} {parts:List (Nat × Operand)} {zs:List (Nat × IV)} {sz:Nat} {cs:List IV} (ho:o.op= .buildSlice t len ⟨parts⟩) (hz:rparts ρ parts=some zs)
  (hl:flit P t len zs=some (sz,cs)):FDoes P o ρ [] [nx] (.ref nx 0 0 len) [(nx, .arr sz 0 (chunk sz len cs))]:=by
 obtain⟨hcl,hlm,e,hrun⟩:=run_lit hl
 have:({x:= .ref nx 0 0 len,F:= [nx],W:= [(nx, .arr sz 0 (chunk sz len cs))]}:FR).ok P o ρ:=by
  refine .does fun M a hM _ hF hr=>?_
  obtain⟨l1,l2⟩:=rparts_rel (M:=M) (a:=a) hz fun p hp=>hr p.2 (by
   simp only [ho,Op.operands];simp;exact⟨p.1,hp⟩)
  obtain⟨vs,g1,g2⟩:=hrun M (parts.map fun p=>(p.1,a.eval p.2)) l1 l2
  have hvl:=g1.len
  obtain⟨s,r⟩:=mem_new hM nx (hF nx (by simp)) sz 0 len (chunk sz len cs) ⟨vs⟩ e (chunk_wid hcl) (by simp [chunk]) hlm (Roomy.all (by simp [hvl,hcl]) (by simpa using g1.one)) (by
   intro i row j x hi hj
   obtain⟨_,_,hy⟩:=chunk_get hi hj
   obtain⟨u,u1,u2,u3⟩:=g1.get hy
   exact⟨u,by simpa using u1,u2,u3⟩)
  refine⟨.slice (some ⟨M.w.heap.size,0,none⟩) len len,_,?_,s,r,rfl,?_⟩
  ·simp only [execOp,ho,Sem.run_bind]
   have e:(Array.map (fun x=>(x.1,a.eval x.2)) ⟨parts⟩:Array (Nat × Value))=⟨parts.map fun p=>(p.1,a.eval p.2)⟩:=by simp
   rw [show(Array.map (fun x:Nat × Operand=>match x with | (i,x)=>(i,a.eval x)) ⟨parts⟩:Array (Nat × Value))=⟨parts.map fun p=>(p.1,a.eval p.2)⟩ from e,g2]
   rfl
  ·refine .ref nx 0 0 len _ (.inr rfl) ⟨_,_,rfl⟩ fun blk hblk=>?_
   simp only [AH.put,if_true,Option.some.injEq] at hblk
   subst hblk
   refine⟨Nat.le_refl _,fun _=>⟨_,_,rfl,by omega,by simp [IBlk.len,chunk],by simp [IBlk.len,chunk], .inr ⟨M.w.heap.size,0,len,by simp [putβ],by simp,by omega⟩⟩⟩
 exact this
theorem drun_lit {all:Array Oper} {dst:Option Tmp} {t ty:TypeId} {len:Nat} {parts:List (Nat × Operand)} {pos:String} {aft:Array Edge} {g:Option (Nat × Bool)} {zs:List (Nat × IV)} {sz:Nat} {cs:List IV} {r:List Oper} {S:IState} {acc:List FP} {K:IState→List FP→Prop}
  (hw:iwant all S.s ⟨dst, .buildSlice t len ⟨parts⟩,ty,pos,aft,g⟩=some true) (hz:rparts (ev S.s) parts=some zs) (hl:flit P t len zs=some (sz,cs)) (hd:dOk S.n dst=true)
  (h:DRun P h0 all r ⟨S.n,putS dst (.ref S.nx 0 0 len) S.s,S.d,S.nx+1,(S.nx, .arr sz 0 (chunk sz len cs))::S.l⟩ (acc++ [([], [S.nx])]) K):
  DRun P h0 all (⟨dst, .buildSlice t len ⟨parts⟩,ty,pos,aft,g⟩::r) S acc K:=by
 obtain⟨frs,S',h1,h2⟩:=h
 refine⟨{x:= .ref S.nx 0 0 len,F:= [S.nx],W:= [(S.nx, .arr sz 0 (chunk sz len cs))]}::frs,S', .op hw (FDoes.loc (lit_own rfl hz hl)) ?_ hd (by simpa using h1),by simpa [FR.fp] using h2⟩
 exact FR.fits.G ⟨by simp, .inr ⟨rfl,_,rfl⟩⟩
theorem irun_walkD {ops:List Oper} {id n:Nat} {k:List It} {S:IState} {Q:Exit→IState→Prop} (u:List (Option (List Nat))) (hm:P.follows .mixedOrders=true) (hst:stat ops u=true)
  (h:DRun P h0 ops.toArray ops S [] (fun S' fps=>chk u fps∧vc P h0 Q n k S')):IRun P h0 (.code (.region id ops.toArray true)::k) S Q:=by
 obtain⟨frs,S',h1,h2,h3⟩:=h
 exact irun_drawn hm hst h1 (by simpa using h2) (vc_sound Q n k S' h3)
theorem DSteps.app {all:Array Oper} {l1 l2:List Oper} {S S1 S2:IState} {f1 f2:List FR} (h1:DSteps P h0 all l1 S f1 S1) (h2:DSteps P h0 all l2 S1 f2 S2):DSteps P h0 all (l1++l2) S (f1++f2) S2:=by
 induction h1 with
 | nil S=>exact h2
 | op hw hl hf hd _ ih=>exact .op hw hl hf hd (ih h2)
 | skip hw hd _ ih=>exact .skip hw hd (ih h2)
theorem drun_split (k:Nat) {all:Array Oper} {l:List Oper} {S:IState} {acc:List FP} {K:IState→List FP→Prop} (h:dvc P h0 all (fun S acc=>DRun P h0 all (l.drop k) S acc K) (l.take k) S acc):DRun P h0 all l S acc K:=by
 obtain⟨f1,S1,h1,f2,S2,h2,h3⟩:=dvc_sound _ _ _ h
 refine⟨f1++f2,S2,by simpa using h1.app h2,by simpa using h3⟩
end Go.Idl
