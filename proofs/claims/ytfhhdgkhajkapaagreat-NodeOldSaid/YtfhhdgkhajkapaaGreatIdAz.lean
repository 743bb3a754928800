/- Facts that the proofs of this claim lean on. -/
import Derived.Test.YtfhhdgkhajkapaaGreatIdD
import Derived.Laws.StructEq
import Derived.ChangeKeysEq
import Derived.Test.YtfhhdgkhajkapaaGreatIdH
import Derived.MapKept
import Derived.Laws.Pointers
import Derived.Laws.BytesString
import Derived.Test.YtfhhdgkhajkapaaGreatIdNa
set_option linter.unusedSimpArgs false
set_option linter.unusedVariables false
/-
 Equality of values all of whose cells are plain: cell by cell; and such values as keys of maps.
-/
namespace Go.Idl
variable {P:Program}
def tlfs (P:Program) (f:TypeId→Option (List TK)):Nat→List Field→Option (List TK)
 | _, []=>some []
 | off,x::r=>match f x.type with
   | some l=>if x.name≠ "_" ∧x.offset=off∧tsz P x.type=some l.length∧0 < l.length then(tlfs P f (off+l.length) r).map (l++·) else none
   | none=>none
def tleaf (P:Program):Nat→TypeId→Option (List TK)
 | 0,_=>none
 | n+1,t=>match P.underlying t with
   | some .bool=>some [.bool]
   | some (.int k)=>some [.int k]
   | some .string=>some [.string]
   | some (.struct fs)=>if P.stoodInHeld t then none else tlfs P (tleaf P n) 0 fs.toList
   | some (.array m e)=>match tleaf P n e with
     | some l=>if tsz P e=some l.length∧0 < l.length then some (List.replicate m l).flatten else none
     | none=>none
   | _=>none
def sleq:TK→Value→Value→Option Bool
 | .bool, .bool a, .bool b=>some (a==b)
 | .int k, .int k1 a, .int k2 b=>if k1=k∧k2=k then some (a==b) else none
 | .string, .string a, .string b=>some (a.toList==b.toList)
 | _,_,_=>none
def leq:List TK→List Value→List Value→Option Bool
 | [], [], []=>some true
 | k::ks,x::xs,y::ys=>match sleq k x y,leq ks xs ys with
   | some a,some b=>some (a && b)
   | _,_=>none
 | _,_,_=>none
def vof (P:Program) (t:TypeId) (cs:List Value):Value:=match tag P t with
 | some true=> .agg ⟨cs⟩
 | _=>cs.headD undef
theorem qgk: ∀ {l:List TK} {xs ys:List Value} {b:Bool},leq l xs ys=some b→xs.length=l.length∧ys.length=l.length
 | [],xs,ys,b,h=>by
   cases xs<;>cases ys<;>first | exact⟨rfl,rfl⟩ | cases h
 | k::ks,xs,ys,b,h=>by
   cases xs with
   | nil=>cases h
   | cons x xs=>cases ys with
     | nil=>cases h
     | cons y ys=>
       simp only [leq] at h
       split at h
       ·rename_i h1 h2
        obtain⟨e1,e2⟩:=qgk h2
        exact⟨by simp [e1],by simp [e2]⟩
       ·cases h
theorem leq_append: ∀ {l1 l2:List TK} {xs ys:List Value} {b:Bool},leq (l1++l2) xs ys=some b→
  ∃b1 b2,leq l1 (xs.take l1.length) (ys.take l1.length)=some b1∧leq l2 (xs.drop l1.length) (ys.drop l1.length)=some b2∧b=(b1 && b2)
 | [],l2,xs,ys,b,h=>⟨true,b,by simp [leq],by simpa using h,by simp⟩
 | k::ks,l2,xs,ys,b,h=>by
   cases xs with
   | nil=>cases h
   | cons x xs=>cases ys with
     | nil=>cases h
     | cons y ys=>
       simp only [List.cons_append,leq] at h
       split at h
       ·rename_i a c h1 h2
        obtain⟨b1,b2,e1,e2,e3⟩:=leq_append h2
        refine⟨a && b1,b2,?_,by simpa using e2,?_⟩
        ·simp only [List.length_cons,List.take_succ_cons,leq,h1,e1]
        ·cases h;rw [e3,Bool.and_assoc]
       ·cases h
theorem tag_scalar {t:TypeId} {d:TypeDesc} (hu:P.underlying t=some d) (h:(match d with | .struct _ | .array _ _=>true | _=>false)=false):tag P t=some false:=by
 unfold tag;rw [hu];simp only [Option.map_some];cases d<;>simp_all
theorem tag_true {t:TypeId} {d:TypeDesc} (hu:P.underlying t=some d) (h:(match d with | .struct _ | .array _ _=>true | _=>false)=true):tag P t=some true:=by
 unfold tag;rw [hu];simp only [Option.map_some];cases d<;>simp_all
theorem leaf_tag {n:Nat} {t:TypeId} {l:List TK} (h:tleaf P n t=some l):tag P t=some true∨(tag P t=some false∧l.length=1):=by
 cases n with
 | zero=>cases h
 | succ n=>
   unfold tleaf at h
   split at h
   ·rename_i hu;cases h;exact .inr ⟨tag_scalar hu rfl,rfl⟩
   ·rename_i hu;cases h;exact .inr ⟨tag_scalar hu rfl,rfl⟩
   ·rename_i hu;cases h;exact .inr ⟨tag_scalar hu rfl,rfl⟩
   ·rename_i hu;exact .inl (tag_true hu rfl)
   ·rename_i hu;exact .inl (tag_true hu rfl)
   ·cases h
theorem part_leaf {n:Nat} {t:TypeId} {l:List TK} (h:tleaf P n t=some l) (hs:tsz P t=some l.length) (xs:List Value) (off:Nat) (hl:off+l.length≤xs.length) (w:World):
  (part t ⟨xs⟩ off).run P w= .ok (vof P t ((xs.drop off).take l.length)) w:=by
 unfold part vof
 rw [Sem.run_bind]
 rcases leaf_tag h with ht | ⟨ht,h1⟩
 ·rw [qcp ht,ht]
  simp only [Result.andThen_ok,if_true,Sem.run_bind,qaC hs,Sem.run_pure]
  congr 2
  simp [List.take_drop]
 ·rw [qcp ht,ht]
  have hlt:off < xs.length:=by omega
  simp only [Result.andThen_ok,Bool.false_eq_true,if_false]
  have e:(⟨xs⟩:Array Value)[off]? =some xs[off]:=by simp [hlt]
  rw [e]
  simp only [Sem.run_pure]
  rw [h1,List.drop_eq_getElem_cons hlt]
  rfl
theorem qjN {x y:Value} {b:Bool} (h:sleq .bool x y=some b): ∃p q,x= .bool p∧y= .bool q∧b=(p==q):=by
 cases x<;>cases y<;>simp only [sleq,reduceCtorEq,Option.some.injEq] at h
 exact⟨_,_,rfl,rfl,h.symm⟩
theorem qgM {x y:Value} {b:Bool} (h:sleq .string x y=some b): ∃p q,x= .string p∧y= .string q∧b=(p.toList==q.toList):=by
 cases x<;>cases y<;>simp only [sleq,reduceCtorEq,Option.some.injEq] at h
 exact⟨_,_,rfl,rfl,h.symm⟩
theorem qlV {k:IntKind} {x y:Value} {b:Bool} (h:sleq (.int k) x y=some b): ∃p q,x= .int k p∧y= .int k q∧b=(p==q):=by
 cases x<;>cases y<;>simp only [sleq,reduceCtorEq] at h
 split at h
 ·rename_i hk;obtain⟨rfl,rfl⟩:=hk;cases h;exact⟨_,_,rfl,rfl,rfl⟩
 ·cases h
theorem info_tsz {t:TypeId} {n:Nat} (h:tsz P t=some n): ∃i,P.info? t=some i∧i.size=n:=by
 unfold tsz at h
 cases hi:P.info? t with
 | none=>simp [hi] at h
 | some i=>simp [hi] at h;exact⟨i,rfl,h⟩
theorem qje {f:TypeId→Option (List TK)} {d n:Nat} (hf: ∀t,f t=tleaf P n t)
  (ih: ∀t l,tleaf P n t=some l→ ∀xs ys b w,leq l xs ys=some b→(Op.equalIn d t (vof P t xs) (vof P t ys)).run P w= .ok b w): ∀(fs:List Field) (off:Nat) (l:List TK),tlfs P f off fs=some l→
  ∀(xs ys:List Value) (b:Bool) (w:World),leq l (xs.drop off) (ys.drop off)=some b→(Op.eqFields d ⟨xs⟩ ⟨ys⟩ fs).run P w= .ok b w
 | [],off,l,h,xs,ys,b,w,hq=>by
   cases h
   cases hx:xs.drop off<;>cases hy:ys.drop off<;>rw [hx,hy] at hq<;>cases hq
   simp [Op.eqFields]
 | x::r,off,l,h,xs,ys,b,w,hq=>by
   unfold tlfs at h
   split at h
   ·rename_i lx hx
    split at h
    ·rename_i hc
     obtain⟨h1,h2,h3,h4⟩:=hc
     simp only [Option.map_eq_some_iff] at h
     obtain⟨lr,hr,rfl⟩:=h
     rw [hf] at hx
     obtain⟨b1,b2,e1,e2,rfl⟩:=leq_append hq
     obtain⟨n1,n2⟩:=qgk hq
     simp only [List.length_drop,List.length_append] at n1 n2
     rw [List.drop_drop] at e2
     rw [List.drop_drop] at e2
     have hrest:=qje hf ih r _ lr hr xs ys b2 w (by rw [Nat.add_comm] at e2;simpa [Nat.add_comm] using e2)
     simp only [Op.eqFields,h1,ne_eq,not_false_eq_true,if_true,Sem.run_bind,h2]
     ·rw [part_leaf hx h3 xs off (by omega) w,Result.andThen_ok,part_leaf hx h3 ys off (by omega) w,Result.andThen_ok,ih x.type lx hx _ _ _ w e1]
      simp only [Result.andThen_ok]
      cases b1
      ·simp
      ·simpa using hrest
    ·cases h
   ·cases h
theorem leq_one {k:TK} {xs ys:List Value} {b:Bool} (h:leq [k] xs ys=some b): ∃x y,xs= [x]∧ys= [y]∧sleq k x y=some b:=by
 obtain⟨h1,h2⟩:=qgk h
 match xs,ys,h1,h2 with
 | [x], [y],_,_=>
   simp only [leq] at h
   split at h
   ·rename_i a c e1 e2
    cases e2
    cases h
    exact⟨x,y,rfl,rfl,by simpa using e1⟩
   ·cases h
theorem eq_items {d:Nat} {e:TypeId} {l:List TK} (hs:tsz P e=some l.length) (hl:0 < l.length) {n:Nat} (he:tleaf P n e=some l)
  (ih: ∀xs ys b w,leq l xs ys=some b→(Op.equalIn d e (vof P e xs) (vof P e ys)).run P w= .ok b w): ∀(m k:Nat) (xs ys:List Value) (b:Bool) (w:World),
  leq (List.replicate m l).flatten (xs.drop (k * l.length)) (ys.drop (k * l.length))=some b→(Op.eqItems d e l.length ⟨xs⟩ ⟨ys⟩ (List.range' k m)).run P w= .ok b w
 | 0,k,xs,ys,b,w,h=>by
   simp only [List.replicate_zero,List.flatten_nil] at h
   cases hx:xs.drop (k * l.length)<;>cases hy:ys.drop (k * l.length)<;>rw [hx,hy] at h<;>cases h
   simp [Op.eqItems]
 | m+1,k,xs,ys,b,w,h=>by
   rw [List.replicate_succ,List.flatten_cons] at h
   obtain⟨b1,b2,e1,e2,rfl⟩:=leq_append h
   obtain⟨n1,n2⟩:=qgk h
   simp only [List.length_drop,List.length_append] at n1 n2
   rw [List.drop_drop,List.drop_drop,show k * l.length+l.length=(k+1) * l.length by rw [Nat.add_mul,Nat.one_mul]] at e2
   have hrest:=eq_items hs hl he ih m (k+1) xs ys b2 w e2
   simp only [List.range'_succ,Op.eqItems,Sem.run_bind]
   rw [part_leaf he hs xs (k * l.length) (by omega) w,Result.andThen_ok,part_leaf he hs ys (k * l.length) (by omega) w,Result.andThen_ok,ih _ _ _ w e1]
   simp only [Result.andThen_ok]
   cases b1
   ·simp
   ·simpa using hrest
theorem eq_leaf (d:Nat): ∀(n:Nat) (t:TypeId) (l:List TK),tleaf P n t=some l→ ∀xs ys b w,leq l xs ys=some b→(Op.equalIn (d+n) t (vof P t xs) (vof P t ys)).run P w= .ok b w:=by
 intro n
 induction n with
 | zero=>intro t l h;cases h
 | succ n ih=>
   intro t l h xs ys b w hq
   unfold tleaf at h
   split at h
   ·rename_i hu;cases h
    obtain⟨x,y,rfl,rfl,hs⟩:=leq_one hq
    obtain⟨p,q,rfl,rfl,rfl⟩:=qjN hs
    unfold vof;rw [tag_scalar hu rfl]
    exact run_equalIn_bool' w _ t _ _ hu
   ·rename_i hu;cases h
    obtain⟨x,y,rfl,rfl,hs⟩:=leq_one hq
    obtain⟨p,q,rfl,rfl,rfl⟩:=qlV hs
    unfold vof;rw [tag_scalar hu rfl]
    exact run_equalIn_int w _ t _ _ _ _ hu
   ·rename_i hu;cases h
    obtain⟨x,y,rfl,rfl,hs⟩:=leq_one hq
    obtain⟨p,q,rfl,rfl,rfl⟩:=qgM hs
    unfold vof;rw [tag_scalar hu rfl]
    exact run_equalIn_string w _ t _ _ hu
   ·rename_i fs hu
    split at h
    ·cases h
    ·rename_i hst
     unfold vof;rw [tag_true hu rfl]
     have hff:P.underlying t=some (.struct (P.fieldsOf t)):=by simp only [Program.fieldsOf,hu]
     have hfs:P.fieldsOf t=fs:=by simp only [Program.fieldsOf,hu]
     show(Op.equalIn (d+n+1) t _ _).run P w=_
     rw [run_equalIn_struct w (d+n) t ⟨xs⟩ ⟨ys⟩ hff (by simpa using hst),hfs]
     exact qje (n:=n) (fun _=>rfl) (fun t l h xs ys b w=>ih t l h xs ys b w) fs.toList 0 l h xs ys b w (by simpa using hq)
   ·rename_i m e hu
    split at h
    ·rename_i le he
     split at h
     ·rename_i hc
      obtain⟨i,hi,hsz⟩:=info_tsz hc.1
      cases h
      unfold vof;rw [tag_true hu rfl]
      show(Op.equalIn (d+n+1) t _ _).run P w=_
      have hce:P.cellsOf e=le.length:=by rw [←hsz];unfold Program.cellsOf;rw [hi];rfl
      rw [run_equalIn_array w (d+n) ⟨xs⟩ ⟨ys⟩ hu hi,hce,List.range_eq_range']
      exact eq_items hc.1 hc.2 he (fun xs ys b w=>ih e le he xs ys b w) m 0 xs ys b w (by simpa using hq)
     ·cases h
    ·cases h
   ·cases h
end Go.Idl
/-
 Maps that are owned: made, looked into, written to.
-/
namespace Go.Idl
variable {P:Program} {o:Oper} {ρ:Operand→Option IV} {G:Nat→Option IBlk}
/-! ### keys -/
theorem qrs (em:Bool) (d:Nat): ∀(n:Nat) (t:TypeId) (l:List TK),tleaf P n t=some l→ ∀(xs:List Value) (w:World),xs.length=l.length→(Instr.checkKey em (d+n) t (vof P t xs)).run P w= .ok () w:=by
 intro n
 induction n with
 | zero=>intro t l h;cases h
 | succ n ih=>
   intro t l h xs w hl
   unfold tleaf at h
   have scal: ∀k,P.underlying t=some k→(match k with | .struct _ | .array _ _=>true | _=>false)=false→(match k with | .interface _=>true | _=>false)=false→(Instr.checkKey em (d+(n+1)) t (vof P t xs)).run P w= .ok () w:=by
    intro k hu h1 h2
    show(Instr.checkKey em (d+n+1) t _).run P w=_
    unfold Instr.checkKey
    rw [Sem.run_bind,run_underlying hu w,Result.andThen_ok]
    cases k<;>simp_all
   split at h
   ·rename_i hu;exact scal _ hu rfl rfl
   ·rename_i hu;exact scal _ hu rfl rfl
   ·rename_i hu;exact scal _ hu rfl rfl
   ·rename_i fs hu
    split at h
    ·cases h
    ·unfold vof;rw [tag_true hu rfl]
     show(Instr.checkKey em (d+n+1) t _).run P w=_
     unfold Instr.checkKey
     rw [Sem.run_bind,run_underlying hu w,Result.andThen_ok]
     simp only
     rw [←Array.forIn_toList]
     obtain⟨off,hoff⟩: ∃off:Nat,off=0:=⟨0,rfl⟩
     have hq:xs.length=off+l.length:=by omega
     rw [←hoff] at h
     clear hu hoff hl
     generalize fs.toList=L at h
     induction L generalizing off l with
     | nil=>simp
     | cons x L ihL=>
       unfold tlfs at h
       split at h
       ·rename_i lx hx
        split at h
        ·rename_i hc
         obtain⟨h1,h2,h3,h4⟩:=hc
         simp only [Option.map_eq_some_iff] at h
         obtain⟨lr,hr,rfl⟩:=h
         rw [List.length_append] at hq
         have hck:=ih x.type lx hx ((xs.drop off).take lx.length) w (by rw [List.length_take,List.length_drop];omega)
         simp only [List.forIn_cons,Sem.run_bind,h1,ne_eq,not_false_eq_true,if_true,h2,part_leaf hx h3 xs off (by omega) w,Result.andThen_ok,hck,Sem.run_pure]
         have:=ihL lr (off+lx.length) (by omega) hr
         rw [Sem.run_bind] at this
         exact this
        ·cases h
       ·cases h
   ·rename_i m e hu
    split at h
    ·rename_i le he
     split at h
     ·rename_i hc
      cases h
      unfold vof;rw [tag_true hu rfl]
      show(Instr.checkKey em (d+n+1) t _).run P w=_
      unfold Instr.checkKey
      rw [Sem.run_bind,run_underlying hu w,Result.andThen_ok]
      simp only [Std.Legacy.Range.forIn_eq_forIn_range',Std.Legacy.Range.size,Nat.sub_zero,Nat.add_one_sub_one,Nat.div_one]
      have hlen:xs.length=m * le.length:=by rw [hl];simp
      obtain⟨k,hk⟩: ∃k:Nat,k=0:=⟨0,rfl⟩
      have hq:(k+m) * le.length≤xs.length:=by rw [hlen,hk];simp
      rw [←hk]
      clear hu hlen hl hk
      induction m generalizing k with
      | zero=>simp
      | succ m' ihm=>
        have h1:k * le.length+le.length≤xs.length:=by
         rw [←Nat.succ_mul]
         exact Nat.le_trans (Nat.mul_le_mul_right _ (by omega)) hq
        rw [List.range'_succ]
        simp only [List.forIn_cons,Sem.run_bind,qaC hc.1,Result.andThen_ok,part_leaf he hc.1 xs (k * le.length) h1 w,ih e le he ((xs.drop (k * le.length)).take le.length) w (by rw [List.length_take,List.length_drop];omega),Sem.run_pure]
        have:=ihm (k+1) (by rw [show k+1+m'=k+(m'+1) by omega];exact hq)
        rw [Sem.run_bind] at this
        exact this
     ·cases h
    ·cases h
   ·cases h
/-! ### looking for a key -/
def kok (tb:Bool):Value→Bool
 | .agg _=>tb
 | _=>!tb
def qh3 (tb:Bool) (l:List TK) (k:List Value):Nat→List (Value × IV)→Option (Option (Nat × IV))
 | _, []=>some none
 | i,e::r=>if kok tb e.1 then match leq l k e.1.cells.toList with
   | some true=>some (some (i,e.2))
   | some false=>qh3 tb l k (i+1) r
   | none=>none
   else none
theorem qrP {t:TypeId} {tb:Bool} (ht:tag P t=some tb) {v:Value} (h:kok tb v=true):v=vof P t v.cells.toList:=by
 unfold vof;rw [ht]
 cases tb<;>cases v<;>first | rfl | cases h
def ikey (P:Program) (t:TypeId):IV→Option Value
 | .p (.sc v)=>match tag P t,v with
   | some false, .agg _=>none
   | some false,v=>some v
   | _,_=>none
 | .agg cs=>match tag P t with
   | some true=>(scs cs).map fun vs=> .agg ⟨vs⟩
   | _=>none
 | _=>none
theorem qqC {t:TypeId} {z:IV} {k:Value} (h:ikey P t z=some k):k=vof P t k.cells.toList:=by
 unfold ikey at h
 split at h
 ·split at h
  ·cases h
  ·rename_i ht hna
   cases h
   unfold vof;rw [ht]
   simp only
   cases k<;>first | rfl | exact absurd rfl (hna _)
  ·cases h
 ·split at h
  ·rename_i ht
   simp only [Option.map_eq_some_iff] at h
   obtain⟨vs,_,rfl⟩:=h
   unfold vof;rw [ht];rfl
  ·cases h
 ·cases h
theorem ikey_rel {M:Mem} {t:TypeId} {z:IV} {k u:Value} (h:ikey P t z=some k) (hu:VRel M z u):u=k:=by
 unfold ikey at h
 split at h
 ·have:=hu.sc_inv;subst this
  split at h
  ·cases h
  ·cases h;rfl
  ·cases h
 ·split at h
  ·simp only [Option.map_eq_some_iff] at h
   obtain⟨vs,hvs,rfl⟩:=h
   obtain⟨us,rfl,l1,_,l3⟩:=hu.agg_inv
   rw [qde hvs l1 l3]
  ·cases h
 ·cases h
theorem same_run {t:TypeId} {kd:TypeDesc} (hu:P.underlying t=some kd) {k kk:Value} {c:Bool} (h:Instr.sameNow kd k kk=some c) (w:World):(Op.equal t k kk).run P w= .ok c w:=by
 unfold Instr.sameNow at h
 split at h
 ·split at h
  ·rename_i e;subst e;cases h;exact run_equalIn_int w 9999 t _ _ _ _ hu
  ·cases h
 ·cases h
  rw [beq_toListBytes]
  exact run_equalIn_string w 9999 t _ _ hu
 ·cases h;exact run_equalIn_bool' w 9999 t _ _ hu
 ·cases h
theorem asking {M:Mem} {t:TypeId} {kd:TypeDesc} (hu:P.underlying t=some kd) {tb:Bool} (htb:tag P t=some tb) {l:List TK} (ht:tleaf P 20 t=some l) {k:Value} (hk:k=vof P t k.cells.toList): ∀(es:List (Value × IV)) (es':List MapEntry) (i:Nat) (r:Option (Nat × IV)),es'.length=es.length→
  (∀(j:Nat) (kk:Value) (x:IV),es[j]? =some (kk,x)→ ∃e,es'[j]? =some e∧(e.key=kk∧e.born=i+j)∧VRel M x e.val)→qh3 tb l k.cells.toList i es=some r→
  ∃r',(Instr.findAsking t k es' i).run P M.w= .ok r' M.w∧(∀q,Instr.findNow kd k es' i=some q→q=r')∧match r,r' with | none,none=>True | some (j,x),some (j',v)=>j=j'∧VRel M x v∧i≤j∧(∃e,es'[j - i]? =some e∧v=e.val∧leq l k.cells.toList e.key.cells.toList=some true∧kok tb e.key=true)∧j < i+es.length | _,_=>False
 | [],es',i,r,hl,_,h=>by
   cases h
   have:es'= []:=List.eq_nil_of_length_eq_zero (by simpa using hl)
   subst this
   exact⟨none,by simp [Instr.findAsking],fun q hq=>by simp [Instr.findNow] at hq;exact hq.symm,trivial⟩
 | (kk,x)::es,es',i,r,hl,he,h=>by
   match es',hl with
   | e'::es',hl=>
     obtain⟨e,he0,⟨hkey,hborn⟩,hx⟩:=he 0 kk x rfl
     simp only [List.getElem?_cons_zero,Option.some.injEq] at he0
     subst he0
     simp only [qh3] at h
     split at h
     ·rename_i hko
      have hkk:=qrP htb hko
      have run: ∀b,leq l k.cells.toList kk.cells.toList=some b→(Op.equal t k e'.key).run P M.w= .ok b M.w:=by
       intro b hb
       have:=eq_leaf (P:=P) 9980 20 t l ht _ _ b M.w hb
       rw [←hk,←hkk] at this
       rw [hkey]
       exact this
      have now: ∀b c,leq l k.cells.toList kk.cells.toList=some b→Instr.sameNow kd k e'.key=some c→c=b:=by
       intro b c hb hc
       have h1:=run b hb
       have h2:=same_run hu hc M.w
       rw [h1] at h2
       cases h2;rfl
      split at h
      ·rename_i hb
       cases h
       refine⟨some (i,e'.val),by simp [Instr.findAsking,run _ hb],fun q hq=>?_,rfl,hx,Nat.le_refl _,⟨e',by simp,rfl,by rw [hkey];exact hb,by rw [hkey];exact hko⟩,by simp⟩
       simp only [Instr.findNow] at hq
       split at hq
       ·cases hq;rfl
       ·rename_i hc;have:=now _ _ hb hc;cases this
       ·cases hq
      ·rename_i hb
       obtain⟨r',g1,g3,g2⟩:=asking hu htb ht hk es es' (i+1) r (by simpa using hl) (fun j kk x hj=>by
        obtain⟨e,e1,⟨e2,e3⟩,e4⟩:=he (j+1) kk x (by simpa using hj)
        exact⟨e,by simpa using e1,⟨e2,by omega⟩,e4⟩) h
       refine⟨r',by simp [Instr.findAsking,run _ hb,g1],fun q hq=>?_,?_⟩
       ·simp only [Instr.findNow] at hq
        split at hq
        ·rename_i hc;have:=now _ _ hb hc;cases this
        ·exact g3 q hq
        ·cases hq
       ·match r,r',g2 with
        | none,none,_=>trivial
        | some (j,x),some (j',v),g2=>
          obtain⟨q1,q2,q3,⟨e,q4,q5⟩,q6⟩:=g2
          refine⟨q1,q2,by omega,⟨e,?_,q5⟩,by simp only [List.length_cons];omega⟩
          rw [show j - i=(j - (i+1))+1 by omega]
          simpa using q4
      ·cases h
     ·cases h
theorem run_find {M:Mem} {t:TypeId} {kd:TypeDesc} (hu:P.underlying t=some kd) {tb:Bool} (htb:tag P t=some tb) {l:List TK} (ht:tleaf P 20 t=some l) {k:Value} (hk:k=vof P t k.cells.toList) {es:List (Value × IV)} {es':List MapEntry} {r:Option (Nat × IV)} (hl:es'.length=es.length)
  (he: ∀(j:Nat) (kk:Value) (x:IV),es[j]? =some (kk,x)→ ∃e,es'[j]? =some e∧(e.key=kk∧e.born=j)∧VRel M x e.val) (h:qh3 tb l k.cells.toList 0 es=some r):
  ∃r',(Instr.findKey t k es').run P M.w= .ok r' M.w∧match r,r' with | none,none=>True | some (j,x),some (j',v)=>j=j'∧VRel M x v∧(∃e,es'[j]? =some e∧v=e.val∧leq l k.cells.toList e.key.cells.toList=some true∧kok tb e.key=true)∧j < es.length | _,_=>False:=by
 obtain⟨r',g1,g2,g3⟩:=asking (M:=M) hu htb ht hk es es' 0 r hl (fun j kk x hj=>by simpa using he j kk x hj) h
 refine⟨r',?_,?_⟩
 ·unfold Instr.findKey
  rw [Sem.run_bind,run_underlying hu M.w,Result.andThen_ok]
  cases hn:Instr.findNow kd k es' 0 with
  | none=>simpa [hn] using g1
  | some q=>have:=g2 q hn;subst this;simp [hn]
 ·match r,r',g3 with
  | none,none,_=>trivial
  | some (j,x),some (j',v),g3=>
    obtain⟨q1,q2,_,q4,q5⟩:=g3
    exact⟨q1,q2,by simpa using q4,by omega⟩
/-! ### the memory -/
theorem qoJ {M:Mem} (h:MRel M) (b:Nat) (hA: ¬M.H.A b):
  qae M ⟨M.w.alloc (.map #[] 0),M.H.put b (.mp []),putβ M.β b (some (M.w.heap.size,0,0))⟩∧
  MRel ⟨M.w.alloc (.map #[] 0),M.H.put b (.mp []),putβ M.β b (some (M.w.heap.size,0,0))⟩:=by
 have s:qae M ⟨M.w.alloc (.map #[] 0),M.H.put b (.mp []),putβ M.β b (some (M.w.heap.size,0,0))⟩:=by
  refine⟨rfl,rfl,rfl,by simp,fun c hc ho=>⟨heap_alloc_old M.w _ hc,?_⟩,fun _ h=> .inl h,fun b' blk' hA' hb'=>?_,rfl,fun _ hc=>heap_alloc_old M.w _ (h.olt _ hc)⟩
  ·rintro(hO | ⟨b',blk,o,n',hb',hc'⟩)
   ·exact ho (.inl hO)
   by_cases e:b'=b
   ·simp [putβ,e] at hc'
    omega
   ·simp only [AH.put,putβ,e,if_false] at hb' hc'
    exact ho (.inr ⟨b',blk,o,n',hb',hc'⟩)
  ·have e:b'≠b:=fun e=>hA (e ▸hA')
   simp only [AH.put,e,if_false] at hb'
   exact⟨blk',hb',rfl,rfl,Nat.le_refl _,fun _=>⟨by simp [putβ,e],rfl⟩⟩
 refine⟨s,h.change s b (.inr rfl) ?_ ?_ ?_ ?_ ?_ ?_⟩
 ·intro b' e;simp [AH.put,e]
 ·intro b' e;simp [putβ,e]
 ·intro b' blk c o n' e hb' hc'
  exact heap_alloc_old M.w _ (h.lt (.inr ⟨b',blk,o,n',hb',hc'⟩))
 ·intro blk' hb'
  simp only [AH.put,if_true,Option.some.injEq] at hb'
  subst hb'
  exact⟨M.w.heap.size,0,0,by simp [putβ],#[],0,heap_alloc_new M.w _,⟨rfl,rfl⟩,fun i k x hi=>by simp at hi⟩
 ·intro blk' c o n' hb' hc' b' blk o' n'' e hb'' hc''
  simp only [putβ,if_true,Option.some.injEq,Prod.mk.injEq] at hc'
  have:=h.lt (.inr ⟨b',blk,o',n'',hb'',hc''⟩)
  omega
 ·intro blk' c o n' _ hc' hO
  simp only [putβ,if_true,Option.some.injEq,Prod.mk.injEq] at hc'
  have:=h.olt c hO
  omega
def World.putM (w:World) (r:Nat) (o:Obj):World:= {w with heap:=w.heap.setIfInBounds r o}
theorem putM_other (w:World) (r c:Nat) (o:Obj) (h:c≠r):(World.putM w r o).heap[c]? =w.heap[c]? :=by
 simp only [World.putM];rw [Array.getElem?_setIfInBounds_ne (fun e=>h e.symm)]
theorem qe9 {M:Mem} (h:MRel M) {b:Nat} {es es2:List (Value × IV)} {c o n:Nat} {cs cs2:Array MapEntry} {clock:Nat}
  (hb:M.H.G b=some (.mp es)) (hβ:M.β b=some (c,o,n)) (hc:M.w.heap[c]? =some (.map cs clock))
  (hl:cs2.size=es2.length) (hr: ∀(i:Nat) (k:Value) (x:IV),es2[i]? =some (k,x)→ ∃e,cs2[i]? =some e∧(e.key=k∧e.born=i)∧VRel M x e.val):
  qae M ⟨World.putM M.w c (.map cs2 es2.length),M.H.put b (.mp es2),M.β⟩∧MRel ⟨World.putM M.w c (.map cs2 es2.length),M.H.put b (.mp es2),M.β⟩:=by
 have hown:M.own c:= .inr ⟨b,_,o,n,hb,hβ⟩
 have s:qae M ⟨World.putM M.w c (.map cs2 es2.length),M.H.put b (.mp es2),M.β⟩:=by
  refine⟨rfl,rfl,rfl,by simp [World.putM],fun c' hc' ho=>⟨putM_other M.w c c' _ (fun e=>ho (e ▸hown)),?_⟩,fun _ h=> .inl h,fun b' blk' hA' hb'=>?_,rfl,fun c' hc'=>putM_other M.w c c' _ (fun e=>h.odis b _ c o n hb hβ (e ▸hc'))⟩
  ·rintro(hO | ⟨b',blk,o'',n'',hb',hc''⟩)
   ·exact ho (.inl hO)
   by_cases e:b'=b
   ·subst e
    rw [hβ] at hc''
    cases hc''
    exact ho hown
   ·simp only [AH.put,e,if_false] at hb'
    exact ho (.inr ⟨b',blk,o'',n'',hb',hc''⟩)
  ·by_cases e:b'=b
   ·subst e
    simp only [AH.put,if_true,Option.some.injEq] at hb'
    subst hb'
    exact⟨_,hb,rfl,rfl,Nat.le_refl _,fun _=>⟨rfl,rfl⟩⟩
   ·simp only [AH.put,e,if_false] at hb'
    exact⟨blk',hb',rfl,rfl,Nat.le_refl _,fun _=>⟨rfl,rfl⟩⟩
 refine⟨s,h.change s b (.inr rfl) ?_ ?_ ?_ ?_ ?_ ?_⟩
 ·intro b' e;simp [AH.put,e]
 ·intro b' e;rfl
 ·intro b' blk c' o'' n'' e hb' hc'
  exact putM_other M.w c c' _ (fun e2=>e (h.inj b' b blk _ c o'' n'' o n hb' hb (e2 ▸hc') hβ))
 ·intro blk' hb'
  simp only [AH.put,if_true,Option.some.injEq] at hb'
  subst hb'
  refine⟨c,o,n,hβ,cs2,es2.length,?_,⟨hl,rfl⟩,fun i k x hi=>?_⟩
  ·have hlt:=(Array.getElem?_eq_some_iff.1 hc).1
   simp [World.putM,hlt]
  ·obtain⟨e,e1,e2,e3⟩:=hr i k x hi
   exact⟨e,e1,e2,e3.step s⟩
 ·intro blk' c' o'' n'' hb' hc' b' blk o3 n3 e hb'' hc''
  simp only at hc'
  rw [hβ] at hc'
  cases hc'
  exact e (h.inj b' b blk _ c o3 n3 o n hb'' hb hc'' hβ)
 ·intro blk' c' o'' n'' _ hc' hO
  simp only at hc'
  rw [hβ] at hc'
  cases hc'
  exact h.odis b _ c o n hb hβ hO
/-! ### the operations -/
def tmp (P:Program) (t:TypeId):Option (TypeId × TypeId):=match P.underlying t with | some (.map k e)=>some (k,e) | _=>none
theorem qsb {t k e:TypeId} (h:tmp P t=some (k,e)):P.underlying t=some (.map k e):=by
 unfold tmp at h
 split at h
 ·rename_i hu;cases h;exact hu
 ·cases h
def tzv (P:Program) (t:TypeId):Option Value:=(P.info? t).bind (·.zero)
theorem qgv {t:TypeId} {z:Value} (h:tzv P t=some z) (w:World):(zeroValue t).run P w= .ok z w:=by
 unfold tzv at h
 cases hi:P.info? t with
 | none=>simp [hi] at h
 | some i=>
   simp [hi] at h
   simp [zeroValue,typeInfo,hi,h]
def cstv:Value→Option IV
 | .agg cs=>if cs.all (·.oneCell') then some (.agg (cs.toList.map fun v=> .p (.sc v))) else none
 | .tuple _=>none
 | v=>some (.p (.sc v))
theorem cstv_rel (M:Mem) {v:Value} {x:IV} (h:cstv v=some x):VRel M x v:=by
 unfold cstv at h
 split at h
 ·rename_i cs
  split at h
  ·rename_i hc
   simp only [Option.some.injEq] at h;subst h
   have:=qcs M (zs:=cs.toList) (by simpa using hc)
   exact .agg _ _ this.len this.one this.rel
  ·cases h
 ·cases h
 ·simp only [Option.some.injEq] at h;subst h;exact .sc M v
def tkey (P:Program) (k:TypeId):Option (Bool × List TK):=match tag P k,tleaf P 20 k with
 | some tb,some l=>some (tb,l)
 | _,_=>none
structure KeyT (P:Program) (k:TypeId) (tb:Bool) (l:List TK):Prop where
 htag:tag P k=some tb
 leaf:tleaf P 20 k=some l
 und: ∃kd,P.underlying k=some kd
theorem qsa {k:TypeId} {tb:Bool} {l:List TK} (h:tkey P k=some (tb,l)):KeyT P k tb l:=by
 unfold tkey at h
 split at h
 ·rename_i h1 h2
  cases h
  refine⟨h1,h2,?_⟩
  unfold tag at h1
  cases hu:P.underlying k with
  | none=>simp [hu] at h1
  | some kd=>exact⟨kd,rfl⟩
 ·cases h
def mlook (P:Program) (G:Nat→Option IBlk) (t:TypeId) (x ix:IV):Option (Nat × List (Value × IV) × Value × Option (Nat × IV) × TypeId):=
 match tmp P t,x with
 | some (k,e), .mp b=>match G b,ikey P k ix,tkey P k with
   | some (.mp es),some kv,some (tb,l)=>if kv.cells.size=l.length then(qh3 tb l kv.cells.toList 0 es).map fun r=>(b,es,kv,r,e) else none
   | _,_,_=>none
 | _,_=>none
theorem qqB {t:TypeId} {tb:Bool} (ht:tag P t=some tb) {z:IV} {k:Value} (h:ikey P t z=some k):kok tb k=true:=by
 unfold ikey at h
 split at h
 ·rw [ht] at h
  split at h
  ·cases h
  ·rename_i hna
   cases h
   simp only [Option.some.injEq] at *
   subst_vars
   cases k<;>first | rfl | exact absurd rfl (hna _)
  ·cases h
 ·rw [ht] at h
  split at h
  ·rename_i e
   cases e
   simp only [Option.map_eq_some_iff] at h
   obtain⟨vs,_,rfl⟩:=h
   rfl
  ·cases h
 ·cases h
theorem sleq_same {q:TK} {a b:Value} (h:sleq q a b=some true) (n:Nat):Instr.sameBits n b a=true:=by
 cases q with
 | bool=>obtain⟨x,y,rfl,rfl,e⟩:=qjN h;cases n<;>simp_all [Instr.sameBits]
 | int k=>obtain⟨x,y,rfl,rfl,e⟩:=qlV h;cases n<;>simp_all [Instr.sameBits]
 | string=>
   obtain⟨x,y,rfl,rfl,e⟩:=qgM h
   have:(y==x)=true:=by rw [beq_toListBytes];simp_all
   cases n<;>simp only [Instr.sameBits,this]
 | float k=>simp [sleq] at h
 | slice e=>simp [sleq] at h
 | map k e=>simp [sleq] at h
 | iface=>simp [sleq] at h
 | other=>simp [sleq] at h
theorem qlq: ∀ {l:List TK} {as bs:List Value},leq l as bs=some true→as.length=bs.length∧ ∀(n:Nat),(bs.zip as).all (fun p=>Instr.sameBits n p.1 p.2)=true
 | [],as,bs,h=>by
   cases as<;>cases bs<;>first | exact⟨rfl,fun _=>rfl⟩ | cases h
 | q::l,as,bs,h=>by
   cases as with
   | nil=>cases h
   | cons a as=>cases bs with
     | nil=>cases h
     | cons b bs=>
       simp only [leq] at h
       split at h
       ·rename_i x y h1 h2
        simp only [Option.some.injEq,Bool.and_eq_true] at h
        obtain⟨rfl,rfl⟩:=h
        obtain⟨e1,e2⟩:=qlq h2
        exact⟨by simp [e1],fun n=>by simp only [List.zip_cons_cons,List.all_cons,sleq_same h1 n,e2 n,Bool.and_self]⟩
       ·cases h
theorem same_bits {tb:Bool} {l:List TK} {k kk:Value} (h1:kok tb k=true) (h2:kok tb kk=true) (h:leq l k.cells.toList kk.cells.toList=some true):Instr.sameBits 10000 kk k=true:=by
 have hs:=qlq h
 cases tb with
 | true=>
   obtain⟨as,rfl⟩: ∃a,k= .agg a:=by cases k<;>first | exact⟨_,rfl⟩ | exact absurd h1 (by simp [kok])
   obtain⟨bs,rfl⟩: ∃a,kk= .agg a:=by cases kk<;>first | exact⟨_,rfl⟩ | exact absurd h2 (by simp [kok])
   simp only [Value.cells] at hs
   show Instr.sameBits (9999+1) _ _=true
   simp only [Instr.sameBits,Bool.and_eq_true,beq_iff_eq]
   exact⟨by have:=hs.1;simpa using this.symm,by simpa using hs.2 9999⟩
 | false=>
   have c1:k.cells.toList= [k]:=by cases k<;>first | rfl | cases h1
   have c2:kk.cells.toList= [kk]:=by cases kk<;>first | rfl | cases h2
   rw [c1,c2] at hs
   have:=hs.2 10000
   simpa using this
structure qn6 (P:Program) (M:Mem) (t:TypeId) (u v:Value) (b:Nat) (es:List (Value × IV)) (kv:Value) (r:Option (Nat × IV)) (e k:TypeId) (c o n:Nat) (cs:Array MapEntry) (r':Option (Nat × Value)):Prop where
 und:P.underlying t=some (.map k e)
 hu:u= .map (some c)
 hv:v=kv
 hβ:M.β b=some (c,o,n)
 heap:M.w.heap[c]? =some (.map cs es.length)
 size:cs.size=es.length
 ck: ∀em w,(Instr.checkKey em 10000 k kv).run P w= .ok () w
 find:(Instr.findKey k kv cs.toList).run P M.w= .ok r' M.w
 rel: ∀(i:Nat) (kk:Value) (x:IV),es[i]? =some (kk,x)→ ∃en,cs[i]? =some en∧(en.key=kk∧en.born=i)∧VRel M x en.val
 same:match r,r' with | none,none=>True | some (j,x),some (j',v)=>j=j'∧VRel M x v∧(∃en,cs[j]? =some en∧v=en.val∧Instr.sameBits 10000 en.key kv=true)∧j < es.length | _,_=>False
theorem qcP {M:Mem} (hM:MRel M) {t:TypeId} {x ix:IV} {b:Nat} {es:List (Value × IV)} {kv:Value} {r:Option (Nat × IV)} {e:TypeId} (h:mlook P G t x ix=some (b,es,kv,r,e)) (hG:M.H.G b=some (.mp es)) {u v:Value} (hu:VRel M x u) (hv:VRel M ix v):
  x= .mp b∧G b=some (.mp es)∧ ∃k c o n cs r',qn6 P M t u v b es kv r e k c o n cs r':=by
 unfold mlook at h
 split at h
 ·rename_i k e0 b0 ht
  split at h
  ·rename_i es0 kv0 tb l hg hk htk
   split at h
   ·rename_i hcs
    simp only [Option.map_eq_some_iff,Prod.mk.injEq] at h
    obtain⟨r0,hf,rfl,rfl,rfl,rfl,rfl⟩:=h
    have K:=qsa htk
    obtain⟨kd,hkd⟩:=K.und
    have hvk:=qqC hk
    obtain⟨c,o,n,hβ,cs,clock,q1,⟨q2,q4⟩,q3⟩:=hM.blk _ _ hG
    subst q4
    refine⟨rfl,hg,k,c,o,n,cs,?_⟩
    obtain⟨r',f1,f2⟩:=run_find (M:=M) hkd K.htag K.leaf hvk (es:=es0) (es':=cs.toList) (r:=r0) (by simpa using q2) (fun j kk x hj=>by simpa using q3 j kk x hj) hf
    refine⟨r',qsb ht,?_,ikey_rel hk hv,hβ,q1,q2,fun em w=>?_,f1,q3,?_⟩
    ·cases hu with
     | mp b v hA hv h=>
       obtain⟨_,c',o',n',h1,h2⟩:=h _ hG
       rw [hβ] at h1;cases h1
       exact h2
    ·have:=qrs (P:=P) em 9980 20 k l K.leaf kv0.cells.toList w (by simpa using hcs)
     rw [←hvk] at this
     exact this
    ·cases r0 with
     | none=>cases r' with
       | none=>trivial
       | some q=>exact f2.elim
     | some p=>cases r' with
       | none=>exact f2.elim
       | some q=>
         obtain⟨j,x⟩:=p
         obtain⟨j',v⟩:=q
         obtain⟨g1,g2,⟨en,g3,g4,g5,g6⟩,g7⟩:=f2
         exact⟨g1,g2,⟨en,by simpa using g3,g4,same_bits (qqB K.htag hk) g6 g5⟩,g7⟩
   ·cases h
  ·cases h
 ·cases h
def fmkmap (nx:Nat) (r:Option IV):Option FR:=match r with
 | none=>some {x:= .mp nx,F:= [nx],W:= [(nx, .mp [])]}
 | some _=>none
def qex (P:Program) (G:Nat→Option IBlk) (t:TypeId) (x ix:IV) (ok:Bool):Option FR:=match mlook P G t x ix with
 | some (b,es,_,some (_,y),_)=>some {x:=if ok then .tup [y,scb true] else y,R:= [(b, .mp es)]}
 | some (b,es,_,none,e)=>match(tzv P e).bind cstv with
   | some z=>some {x:=if ok then .tup [z,scb false] else z,R:= [(b, .mp es)]}
   | none=>none
 | none=>none
def qdH (P:Program) (G:Nat→Option IBlk) (t:TypeId) (m k x:IV):Option FR:=match mlook P G t m k with
 | some (b,es,kv,some (i,_),_)=>some {x:= .dead,R:= [(b, .mp es)],W:= [(b, .mp (es.set i (kv,x)))]}
 | some (b,es,kv,none,_)=>some {x:= .dead,R:= [(b, .mp es)],W:= [(b, .mp (es++ [(kv,x)]))]}
 | none=>none
def qey (P:Program) (G:Nat→Option IBlk) (t:TypeId) (m k:IV):Option FR:=match mlook P G t m k with
 | some (b,es,kv,some (i,y),_)=>some {x:= .tup [y,sci .i64 i],R:= [(b, .mp es)],W:= [(b, .mp (es.set i (kv,y)))]}
 | some (b,es,kv,none,e)=>match(tzv P e).bind cstv with
   | some z=>some {x:= .tup [z,sci .i64 es.length],R:= [(b, .mp es)],W:= [(b, .mp (es++ [(kv,z)]))]}
   | none=>none
 | none=>none
def qfC (G:Nat→Option IBlk) (m s x:IV):Option FR:=match m,s with
 | .mp b, .p (.sc (.int .i64 i))=>match G b with
   | some (.mp es)=>if 0≤i then match es[i.toNat]? with
     | some (k,_)=>some {x:= .dead,R:= [(b, .mp es)],W:= [(b, .mp (es.set i.toNat (k,x)))]}
     | none=>none
     else none
   | _=>none
 | _,_=>none
theorem qrB {t:TypeId} {nx:Nat} {r:Option Operand} {fr:FR} (ho:o.op= .makeMap t r) (hr:r=none) (h:fmkmap nx none=some fr):fr.ok P o ρ:=by
 subst hr
 simp only [fmkmap,Option.some.injEq] at h;subst h
 refine .does fun M a hM _ hF _=>?_
 obtain⟨s1,s2⟩:=qoJ hM nx (hF nx (by simp))
 refine⟨.map (some M.w.heap.size),_,?_,s1,s2,qcr ..,?_⟩
 ·simp [execOp,ho,Instr.makeMap,newObj,Sem.run]
 ·refine .mp nx _ (.inr rfl) ⟨1,_,rfl⟩ fun blk hb=>?_
  simp only [AH.put,if_true,Option.some.injEq] at hb
  subst hb
  exact⟨by simp [IBlk.isMp],M.w.heap.size,0,0,by simp [putβ],rfl⟩
theorem qcH {M:Mem} {c n:Nat} {cs:Array MapEntry} (h:M.w.heap[c]? =some (.map cs n)):(getObj c).run P M.w= .ok (.map cs n) M.w:=by simp [getObj,Sem.run,h]
theorem qqr {t:TypeId} {x ix:Operand} {ok:Bool} {zx zi:IV} {fr:FR} (ho:o.op= .lookup t x ix ok) (hx:ρ x=some zx) (hi:ρ ix=some zi) (h:qex P G t zx zi ok=some fr):fr.ok P o ρ:=by
 unfold qex at h
 split at h
 ·rename_i b es kv j y e hl
  simp only [Option.some.injEq] at h;subst h
  refine .read fun M a hM hR hr=>?_
  have hG:M.H.G b=some (.mp es):=hR (b,_) (by simp)
  obtain⟨_,_,k,c,o',n,cs,r',L⟩:=qcP hM hl hG (hr x (by simp [ho,Op.operands]) _ hx) (hr ix (by simp [ho,Op.operands]) _ hi)
  have hs:=L.same
  cases r' with
  | none=>exact hs.elim
  | some q=>
    obtain⟨j',v⟩:=q
    obtain⟨_,h2,_,_⟩:=hs
    refine⟨if ok then .tuple #[v, .bool true] else v,?_,?_⟩
    ·simp only [execOp,ho,Instr.lookup,Sem.run_bind,run_underlying L.und,L.hu,L.hv,qcH L.heap,L.ck,L.find,Result.andThen_ok,Sem.run_pure]
    ·cases ok
     ·exact h2
     ·refine .tup _ [v, .bool true] rfl fun i x u hx hu=>?_
      match i,hx,hu with
      | 0,hx,hu=>simp at hx hu;subst hx hu;exact h2
      | 1,hx,hu=>simp at hx hu;subst hx hu;exact .sc M _
 ·rename_i b es kv e hl
  split at h
  ·rename_i z hz
   simp only [Option.bind_eq_some_iff] at hz
   obtain⟨zv,hz1,hz2⟩:=hz
   simp only [Option.some.injEq] at h;subst h
   refine .read fun M a hM hR hr=>?_
   have hG:M.H.G b=some (.mp es):=hR (b,_) (by simp)
   obtain⟨_,_,k,c,o',n,cs,r',L⟩:=qcP hM hl hG (hr x (by simp [ho,Op.operands]) _ hx) (hr ix (by simp [ho,Op.operands]) _ hi)
   have hs:=L.same
   cases r' with
   | some q=>exact hs.elim
   | none=>
     refine⟨if ok then .tuple #[zv, .bool false] else zv,?_,?_⟩
     ·simp only [execOp,ho,Instr.lookup,Sem.run_bind,run_underlying L.und,L.hu,L.hv,qcH L.heap,L.ck,L.find,qgv hz1,Result.andThen_ok,Sem.run_pure]
     ·cases ok
      ·exact cstv_rel M hz2
      ·refine .tup _ [zv, .bool false] rfl fun i x u hx hu=>?_
       match i,hx,hu with
       | 0,hx,hu=>simp at hx hu;subst hx hu;exact cstv_rel M hz2
       | 1,hx,hu=>simp at hx hu;subst hx hu;exact .sc M _
  ·cases h
 ·cases h
theorem run_putM {w:World} {c n:Nat} {cs:Array MapEntry} (h:w.heap[c]? =some (.map cs n)) (o:Obj):(setObj c o).run P w= .ok () (World.putM w c o):=by simp [setObj,Sem.run,h,World.putM]
theorem qpj {M:Mem} (hM:MRel M) {t:TypeId} {u v:Value} {b:Nat} {es:List (Value × IV)} {kv:Value} {r:Option (Nat × IV)} {e k:TypeId} {c o n:Nat} {cs:Array MapEntry} {r':Option (Nat × Value)} (L:qn6 P M t u v b es kv r e k c o n cs r') (hG:M.H.G b=some (.mp es))
  {i:Nat} (hi:i < es.length) {kk:Value} {x:IV} {val:Value} (hx:VRel M x val) {f:MapEntry→MapEntry} (hf: ∀en,cs[i]? =some en→(f en).key=kk∧(f en).born=en.born∧(f en).val=val):
  qae M ⟨World.putM M.w c (.map (cs.modify i f) es.length),M.H.put b (.mp (es.set i (kk,x))),M.β⟩∧MRel ⟨World.putM M.w c (.map (cs.modify i f) es.length),M.H.put b (.mp (es.set i (kk,x))),M.β⟩:=by
 have:=qe9 hM (es2:=es.set i (kk,x)) (cs2:=cs.modify i f) hG L.hβ L.heap (by simp [L.size]) fun j k2 x2 hj=>?_
 ·simpa using this
 ·rw [List.getElem?_set] at hj
  split at hj
  ·rename_i e;subst e
   first | (rw [if_pos hi] at hj;cases hj) | cases hj
   obtain⟨en,e1,⟨e2,e3⟩,e4⟩:=L.rel i es[i].1 es[i].2 (by rw [List.getElem?_eq_getElem hi])
   obtain⟨f1,f2,f3⟩:=hf en e1
   refine⟨f en,by simp [Array.getElem?_modify,e1],⟨f1,by rw [f2,e3]⟩,by rw [f3];exact hx⟩
  ·rename_i hne
   obtain⟨en,e1,e2,e3⟩:=L.rel j k2 x2 hj
   exact⟨en,by simp [Array.getElem?_modify,hne,e1],e2,e3⟩
theorem qpf {M:Mem} (hM:MRel M) {t:TypeId} {u v:Value} {b:Nat} {es:List (Value × IV)} {kv:Value} {r:Option (Nat × IV)} {e k:TypeId} {c o n:Nat} {cs:Array MapEntry} {r':Option (Nat × Value)} (L:qn6 P M t u v b es kv r e k c o n cs r') (hG:M.H.G b=some (.mp es))
  {x:IV} {val:Value} (hx:VRel M x val):
  qae M ⟨World.putM M.w c (.map (cs.push {key:=kv,val,born:=es.length}) (es.length+1)),M.H.put b (.mp (es++ [(kv,x)])),M.β⟩∧MRel ⟨World.putM M.w c (.map (cs.push {key:=kv,val,born:=es.length}) (es.length+1)),M.H.put b (.mp (es++ [(kv,x)])),M.β⟩:=by
 have:=qe9 hM (es2:=es++ [(kv,x)]) (cs2:=cs.push {key:=kv,val,born:=es.length}) hG L.hβ L.heap (by simp [L.size]) fun j k2 x2 hj=>?_
 ·simpa using this
 ·rw [List.getElem?_append] at hj
  split at hj
  ·rename_i hlt
   obtain⟨en,e1,e2,e3⟩:=L.rel j k2 x2 hj
   exact⟨en,by rw [Array.getElem?_push,if_neg (by rw [L.size];omega)];exact e1,e2,e3⟩
  ·rename_i hge
   have hlt:=(List.getElem?_eq_some_iff.1 hj).1
   have e:j=es.length:=by simp at hlt;omega
   subst e
   simp at hj
   obtain⟨rfl,rfl⟩:=hj
   exact⟨_,by rw [Array.getElem?_push,if_pos (by rw [L.size])],⟨rfl,rfl⟩,hx⟩
theorem qk9 {t:TypeId} {m k x:Operand} {zm zk zx:IV} {fr:FR} (ho:o.op= .mapUpdate t m k x∨o.op= .insert t m k x) (hm:ρ m=some zm) (hk:ρ k=some zk) (hx:ρ x=some zx) (h:qdH P G t zm zk zx=some fr):fr.ok P o ρ:=by
 have hop:o.op.operands=(Op.mapUpdate t m k x).operands:=by rcases ho with ho | ho<;>rw [ho]<;>rfl
 have hex: ∀(ac:Act),execOp ac.eval o=(do Instr.mapUpdate t (ac.eval m) (ac.eval k) (ac.eval x);pure .skip):=by
  intro ac
  rcases ho with ho | ho<;>simp only [execOp,ho]
 unfold qdH at h
 split at h
 ·rename_i b es kv j y e hl
  simp only [Option.some.injEq] at h;subst h
  refine .skips fun M a hM hR _ hr=>?_
  have hG:M.H.G b=some (.mp es):=hR (b,_) (by simp)
  obtain⟨_,_,kt,c,o',n,cs,r',L⟩:=qcP hM hl hG (hr m (by rw [hop];simp [Op.operands]) _ hm) (hr k (by rw [hop];simp [Op.operands]) _ hk)
  have hs:=L.same
  have hvx:=hr x (by rw [hop];simp [Op.operands]) _ hx
  cases r' with
  | none=>exact hs.elim
  | some q=>
    obtain⟨j',v⟩:=q
    obtain⟨rfl,h2,⟨en,h3,h4,h5⟩,h6⟩:=hs
    obtain⟨s1,s2⟩:=qpj hM L hG (i:=j) h6 (kk:=kv) hvx (f:=fun e=> {e with key:=kv,val:=a.eval x}) (fun en _=>⟨rfl,rfl,rfl⟩)
    refine⟨_,?_,s1,s2,qcr ..⟩
    simp only [hex,Instr.mapUpdate,Sem.run_bind,run_underlying L.und,L.hu,L.hv,qcH L.heap,L.ck,L.find,Result.andThen_ok,Instr.keyThatStays,h3,Option.map_some,Option.getD_some,h5,if_true,Sem.run_pure,run_putM L.heap]
 ·rename_i b es kv e hl
  simp only [Option.some.injEq] at h;subst h
  refine .skips fun M a hM hR _ hr=>?_
  have hG:M.H.G b=some (.mp es):=hR (b,_) (by simp)
  obtain⟨_,_,kt,c,o',n,cs,r',L⟩:=qcP hM hl hG (hr m (by rw [hop];simp [Op.operands]) _ hm) (hr k (by rw [hop];simp [Op.operands]) _ hk)
  have hs:=L.same
  have hvx:=hr x (by rw [hop];simp [Op.operands]) _ hx
  cases r' with
  | some q=>exact hs.elim
  | none=>
    obtain⟨s1,s2⟩:=qpf hM L hG hvx
    refine⟨_,?_,s1,s2,qcr ..⟩
    simp only [hex,Instr.mapUpdate,Sem.run_bind,run_underlying L.und,L.hu,L.hv,qcH L.heap,L.ck,L.find,Result.andThen_ok,Sem.run_pure,run_putM L.heap]
 ·cases h
theorem f_mapent {t:TypeId} {m k:Operand} {zm zk:IV} {fr:FR} (ho:o.op= .mapEntry t m k) (hm:ρ m=some zm) (hk:ρ k=some zk) (h:qey P G t zm zk=some fr):fr.ok P o ρ:=by
 unfold qey at h
 split at h
 ·rename_i b es kv j y e hl
  simp only [Option.some.injEq] at h;subst h
  refine .does fun M a hM hR _ hr=>?_
  have hG:M.H.G b=some (.mp es):=hR (b,_) (by simp)
  obtain⟨_,_,kt,c,o',n,cs,r',L⟩:=qcP hM hl hG (hr m (by simp [ho,Op.operands]) _ hm) (hr k (by simp [ho,Op.operands]) _ hk)
  have hs:=L.same
  cases r' with
  | none=>exact hs.elim
  | some q=>
    obtain⟨j',v⟩:=q
    obtain⟨rfl,h2,⟨en,h3,h4,h5⟩,h6⟩:=hs
    obtain⟨s1,s2⟩:=qpj hM L hG (i:=j) h6 (kk:=kv) h2 (f:=fun e=> {e with key:=kv}) (fun en' hen=>⟨rfl,rfl,by rw [h3] at hen;cases hen;exact h4.symm⟩)
    refine⟨.tuple #[v, .int .i64 j],_,?_,s1,s2,qcr ..,?_⟩
    ·have hb:en.born=j:=by
      obtain⟨en',e1,⟨_,e3⟩,_⟩:=L.rel j es[j].1 es[j].2 (by rw [List.getElem?_eq_getElem h6])
      rw [h3] at e1;cases e1;exact e3
     simp only [execOp,ho,Instr.mapEntry,Sem.run_bind,run_underlying L.und,L.hu,L.hv,qcH L.heap,L.ck,L.find,Result.andThen_ok,Instr.keyThatStays,h3,Option.map_some,Option.getD_some,h5,if_true,Sem.run_pure,run_putM L.heap,hb,goInt]
    ·refine .tup _ [v, .int .i64 j] rfl fun i x u hx hu=>?_
     match i,hx,hu with
     | 0,hx,hu=>simp at hx hu;subst hx hu;exact h2.step s1
     | 1,hx,hu=>simp at hx hu;subst hx hu;exact .sc _ _
 ·rename_i b es kv e hl
  split at h
  ·rename_i z hz
   simp only [Option.bind_eq_some_iff] at hz
   obtain⟨zv,hz1,hz2⟩:=hz
   simp only [Option.some.injEq] at h;subst h
   refine .does fun M a hM hR _ hr=>?_
   have hG:M.H.G b=some (.mp es):=hR (b,_) (by simp)
   obtain⟨_,_,kt,c,o',n,cs,r',L⟩:=qcP hM hl hG (hr m (by simp [ho,Op.operands]) _ hm) (hr k (by simp [ho,Op.operands]) _ hk)
   have hs:=L.same
   cases r' with
   | some q=>exact hs.elim
   | none=>
     obtain⟨s1,s2⟩:=qpf hM L hG (cstv_rel M hz2)
     refine⟨.tuple #[zv, .int .i64 es.length],_,?_,s1,s2,qcr ..,?_⟩
     ·simp only [execOp,ho,Instr.mapEntry,Sem.run_bind,run_underlying L.und,L.hu,L.hv,qcH L.heap,L.ck,L.find,qgv hz1,Result.andThen_ok,Sem.run_pure,run_putM L.heap,goInt]
     ·refine .tup _ [zv, .int .i64 es.length] rfl fun i x u hx hu=>?_
      match i,hx,hu with
      | 0,hx,hu=>simp at hx hu;subst hx hu;exact cstv_rel _ hz2
      | 1,hx,hu=>simp at hx hu;subst hx hu;exact .sc _ _
  ·cases h
 ·cases h
theorem f_entst {t:TypeId} {m s x:Operand} {zm zs zx:IV} {fr:FR} (ho:o.op= .entryStore t m s x) (hm:ρ m=some zm) (hs:ρ s=some zs) (hx:ρ x=some zx) (h:qfC G zm zs zx=some fr):fr.ok P o ρ:=by
 unfold qfC at h
 split at h
 ·rename_i b i
  split at h
  ·rename_i es hgb
   split at h
   ·rename_i h0
    split at h
    ·rename_i kk y hg
     simp only [Option.some.injEq] at h;subst h
     obtain⟨i,rfl⟩:=Int.eq_ofNat_of_zero_le h0
     simp only [Int.toNat_natCast] at hg
     refine .skips fun M a hM hR _ hr=>?_
     have hG:M.H.G b=some (.mp es):=hR (b,_) (by simp)
     have hvx:=hr x (by simp [ho,Op.operands]) _ hx
     have hvm:=hr m (by simp [ho,Op.operands]) _ hm
     have es1:=(hr s (by simp [ho,Op.operands]) _ hs).sc_inv
     obtain⟨c,o',n,hβ,cs,clock,q1,⟨q2,q4⟩,q3⟩:=hM.blk _ _ hG
     subst q4
     have hlt:i < es.length:=(List.getElem?_eq_some_iff.1 hg).1
     have em:a.eval m= .map (some c):=by
      generalize a.eval m=q at hvm
      cases hvm with
      | mp b v hA hv h=>
        obtain⟨_,c',o2,n2,g1,g2⟩:=h _ hG
        rw [hβ] at g1;cases g1
        exact g2
     obtain⟨s1,s2⟩:=qe9 hM (es2:=es.set i (kk,zx)) (cs2:=cs.modify i fun e=> {e with val:=a.eval x}) hG hβ q1 (by simp [q2]) fun j k2 x2 hj=>by
      rw [List.getElem?_set] at hj
      split at hj
      ·rename_i e;subst e
       first | (rw [if_pos hlt] at hj;cases hj) | cases hj
       obtain⟨en,e1,e2,e3⟩:=q3 i kk y hg
       exact⟨{en with val:=a.eval x},by simp [Array.getElem?_modify,e1],e2,hvx⟩
      ·rename_i hne
       obtain⟨en,e1,e2,e3⟩:=q3 j k2 x2 hj
       exact⟨en,by simp [Array.getElem?_modify,hne,e1],e2,e3⟩
     refine⟨_,?_,s1,s2,by simp only [Int.toNat_natCast];exact qcr ..⟩
     have hfind:cs.findIdx? (fun e=>(e.born:Int)==(i:Int))=some i:=by
      rw [Array.findIdx?_eq_some_iff_getElem]
      have hi':i < cs.size:=by omega
      obtain⟨en,e1,⟨_,e3⟩,_⟩:=q3 i kk y hg
      rw [Array.getElem?_eq_getElem hi'] at e1
      simp only [Option.some.injEq] at e1
      subst e1
      refine⟨hi',by simp [e3],fun j hj=>?_⟩
      obtain⟨en,e1,⟨_,e3'⟩,_⟩:=q3 j es[j].1 es[j].2 (by rw [List.getElem?_eq_getElem (show j < es.length by omega)])
      rw [Array.getElem?_eq_getElem (show j < cs.size by omega)] at e1
      simp only [Option.some.injEq] at e1
      rw [e1]
      simp [e3'];omega
     have hai:(asInt (.int .i64 (i:Int))).run P M.w= .ok (i:Int) M.w:=by simp [asInt,asIntOf]
     simp only [execOp,ho,Instr.entryStore,em,es1,Sem.run_bind,qcH q1,Result.andThen_ok,hai,Sem.run_pure,hfind,run_putM q1,List.length_set]
    ·cases h
   ·cases h
  ·cases h
 ·cases h
/-! ### equality of values with parts; pointers and nil -/
def teq (P:Program) (t:TypeId):Option (List TK):=match P.eqGuardType P.depth t,tag P t with
 | false,some true=>tleaf P 20 t
 | _,_=>none
def tptr (P:Program) (t:TypeId):Bool:=match P.underlying t with | some (.pointer _)=>true | _=>false
def eqres (op:BinOp) (b:Bool):Option FR:=match op with
 | .eql=>some {x:=scb b}
 | .neq=>some {x:=scb !b}
 | _=>none
def feqv (P:Program) (op:BinOp) (t:TypeId) (x y:IV):Option FR:=match x,y with
 | .agg xs, .agg ys=>match teq P t,scs xs,scs ys with
   | some l,some us,some vs=>(leq l us vs).bind (eqres op)
   | _,_,_=>none
 | .ptr _ _ _ _, .p (.sc (.pointer none))=>if tptr P t then eqres op false else none
 | .p (.rp _), .p (.sc (.pointer none))=>if tptr P t then eqres op false else none
 | .p (.sc (.pointer none)), .p (.sc (.pointer none))=>if tptr P t then eqres op true else none
 | _,_=>none
theorem qiZ {t:TypeId} (ht:tptr P t=true) (p:Option Addr) (w:World):(Op.equal t (.pointer p) (.pointer none)).run P w= .ok p.isNone w:=by
 unfold tptr at ht
 split at ht
 ·rename_i e hu
  exact run_equalIn_pointer_nil w 9999 t p (by simp only [Program.pointee,hu])
 ·cases ht
theorem eqres_run {op:BinOp} {b:Bool} {fr:FR} (h:eqres op b=some fr) {t:TypeId} {u v:Value} {w:World} (hb:(Op.equal t u v).run P w= .ok b w) (hbin: ∀r:Bool,(op= .eql∧r=b∨op= .neq∧r= !b)→(binOp op t u v).run P w= .ok (.bool r) w):
  ∃r,(binOp op t u v).run P w= .ok (.bool r) w∧fr= {x:=scb r}:=by
 unfold eqres at h
 split at h
 ·cases h;exact⟨b,hbin b (.inl ⟨rfl,rfl⟩),rfl⟩
 ·cases h;exact⟨!b,hbin _ (.inr ⟨rfl,rfl⟩),rfl⟩
 ·cases h
theorem bin_ptr {op:BinOp} {t:TypeId} {a b:Option Addr} {w:World} {r0:Bool} (hb:(Op.equal t (.pointer a) (.pointer b)).run P w= .ok r0 w) (r:Bool) (h:op= .eql∧r=r0∨op= .neq∧r= !r0):(binOp op t (.pointer a) (.pointer b)).run P w= .ok (.bool r) w:=by
 rcases h with ⟨rfl,rfl⟩ | ⟨rfl,rfl⟩<;>simp [binOp,hb]
theorem f_eqv {op:BinOp} {t t':TypeId} {x y:Operand} {zx zy:IV} {fr:FR} (ho:o.op= .binOp op t x y t') (hx:ρ x=some zx) (hy:ρ y=some zy) (h:feqv P op t zx zy=some fr):
  fr.ok P o ρ∧fr.R= []∧fr.F= []∧fr.W= []:=by
 have fin: ∀(hfr: ∃r,fr= {x:=scb r}),(∀(M:Mem) (a:Act),MRel M→(∀y∈o.op.operands,∀z,ρ y=some z→VRel M z (a.eval y))→
   ∃r,(do eqGuard op t x y (a.eval x) (a.eval y);binOp op t (a.eval x) (a.eval y):Sem Value).run P M.w= .ok (.bool r) M.w∧fr= {x:=scb r})→fr.ok P o ρ∧fr.R= []∧fr.F= []∧fr.W= []:=by
  rintro⟨r0,rfl⟩ hk
  refine⟨qbh.read fun M a hM _ hr=>?_,rfl,rfl,rfl⟩
  obtain⟨r,h1,h2⟩:=hk M a hM hr
  have:r0=r:=by
   have:=congrArg FR.x h2
   simpa [scb] using this
  subst this
  refine⟨.bool r0,?_, .sc M _⟩
  simp only [execOp,ho]
  rw [Sem.run_bind,h1]
  rfl
 have isb: ∀ {b:Bool},eqres op b=some fr→ ∃r,fr= {x:=scb r}:=by
  intro b hb
  unfold eqres at hb
  split at hb<;>first | (cases hb;exact⟨_,rfl⟩) | cases hb
 unfold feqv at h
 split at h
 ·rename_i xs ys
  split at h
  ·rename_i l us vs hl h1 h2
   simp only [Option.bind_eq_some_iff] at h
   obtain⟨b,hb,h⟩:=h
   refine fin (isb h) fun M a hM hr=>?_
   obtain⟨us',e1,l1,_,r1⟩:=(hr x (by simp [ho,Op.operands]) _ hx).agg_inv
   obtain⟨vs',e2,l2,_,r2⟩:=(hr y (by simp [ho,Op.operands]) _ hy).agg_inv
   have q1:=qde h1 l1 r1
   have q2:=qde h2 l2 r2
   subst q1;subst q2
   unfold teq at hl
   split at hl
   ·rename_i hg ht
    have heq:(Op.equal t (.agg ⟨us'⟩) (.agg ⟨vs'⟩)).run P M.w= .ok b M.w:=by
     have:=eq_leaf (P:=P) 9980 20 t l hl us' vs' b M.w hb
     unfold vof at this
     rw [ht] at this
     exact this
    rw [e1,e2,Sem.run_bind,run_eqGuard_agg M.w op t x y _ _ hg,Result.andThen_ok]
    refine eqres_run h heq fun r hr=>?_
    rcases hr with ⟨rfl,rfl⟩ | ⟨rfl,rfl⟩<;>simp [binOp,heq]
   ·cases hl
  ·cases h
 ·split at h
  ·rename_i b g r0 j ht
   refine fin (isb h) fun M a hM hr=>?_
   have e2:=(hr y (by simp [ho,Op.operands]) _ hy).sc_inv
   have hv:=hr x (by simp [ho,Op.operands]) _ hx
   obtain⟨c,o',e1⟩: ∃c o',a.eval x= .pointer (some ⟨c,o',none⟩):=by
    generalize a.eval x=q at hv
    cases hv with
    | ptr b g r j v hA hv h=>exact hv
   have heq:(Op.equal t (.pointer (some ⟨c,o',none⟩)) (.pointer none)).run P M.w= .ok false M.w:=qiZ ht _ _
   rw [e1,e2,Sem.run_bind,qaW op t x y (by simp) (by simp) M.w,Result.andThen_ok]
   exact eqres_run h heq (bin_ptr heq)
  ·cases h
 ·split at h
  ·rename_i cells ht
   refine fin (isb h) fun M a hM hr=>?_
   have e2:=(hr y (by simp [ho,Op.operands]) _ hy).sc_inv
   have hv:=hr x (by simp [ho,Op.operands]) _ hx
   obtain⟨c,o',e1⟩: ∃c o',a.eval x= .pointer (some ⟨c,o',none⟩):=by
    generalize a.eval x=q at hv
    cases hv with
    | p _ _ hv=>cases hv with
      | rp cells c o f ha hc hr=>exact⟨c,o,rfl⟩
   have heq:(Op.equal t (.pointer (some ⟨c,o',none⟩)) (.pointer none)).run P M.w= .ok false M.w:=qiZ ht _ _
   rw [e1,e2,Sem.run_bind,qaW op t x y (by simp) (by simp) M.w,Result.andThen_ok]
   exact eqres_run h heq (bin_ptr heq)
  ·cases h
 ·split at h
  ·rename_i ht
   refine fin (isb h) fun M a hM hr=>?_
   have e2:=(hr y (by simp [ho,Op.operands]) _ hy).sc_inv
   have e1:=(hr x (by simp [ho,Op.operands]) _ hx).sc_inv
   have heq:(Op.equal t (.pointer none) (.pointer none)).run P M.w= .ok true M.w:=qiZ ht _ _
   rw [e1,e2,Sem.run_bind,qaW op t x y (by simp) (by simp) M.w,Result.andThen_ok]
   exact eqres_run h heq (bin_ptr heq)
  ·cases h
 ·cases h
/-! ### assertions to types that are no interfaces -/
theorem und_iface {t:TypeId} {ms:Array (String × TypeId)} {k:TK} (hu:P.underlying t=some (.interface ms)) (hk:tkd P t=some k):k= .iface:=by
 unfold tkd at hk
 rw [hu] at hk
 simpa using hk.symm
def qeu (P:Program) (t:TypeId) (ok:Bool) (x:IV):Option FR:=match tkd P t,x with
 | some .iface,_=>none
 | some _, .p (.sc (.iface d v))=>if d=t then(cstv v).map fun z=> {x:=if ok then .tup [z,scb true] else z}
   else if ok then((tzv P t).bind cstv).map fun z=> {x:= .tup [z,scb false]} else none
 | some _, .p (.sc .nilIface)=>if ok then((tzv P t).bind cstv).map fun z=> {x:= .tup [z,scb false]} else none
 | _,_=>none
theorem tup2 {M:Mem} {x:IV} {v:Value} {b:Bool} (h:VRel M x v):VRel M (.tup [x,scb b]) (.tuple #[v, .bool b]):=by
 refine .tup _ [v, .bool b] rfl fun i y u hy hu=>?_
 match i,hy,hu with
 | 0,hy,hu=>simp at hy hu;subst hy hu;exact h
 | 1,hy,hu=>simp at hy hu;subst hy hu;exact .sc M _
theorem qqq {x:Operand} {xt t:TypeId} {ok:Bool} {zx:IV} {fr:FR} (ho:o.op= .typeAssert x xt t ok) (hx:ρ x=some zx) (h:qeu P t ok zx=some fr):fr.ok P o ρ∧fr.R= []∧fr.F= []∧fr.W= []:=by
 unfold qeu at h
 split at h
 ·cases h
 ·rename_i k d v hni hk
  obtain⟨kd,hu,hkd⟩:=qaZ hk
  have hnot: ∀ms,kd≠ .interface ms:=by
   rintro ms rfl
   exact hni (und_iface hu hk)
  split at h
  ·rename_i e
   subst e
   simp only [Option.map_eq_some_iff] at h
   obtain⟨z,hz,rfl⟩:=h
   refine⟨.read fun M a hM _ hr=>?_,rfl,rfl,rfl⟩
   have e1:=(hr x (by simp [ho,Op.operands]) _ hx).sc_inv
   refine⟨if ok then .tuple #[v, .bool true] else v,?_,?_⟩
   ·simp only [execOp,ho,e1,Instr.typeAssert,Sem.run_bind,run_underlying hu,Result.andThen_ok]
    cases kd<;>first | exact absurd rfl (hnot _) | simp
   ·cases ok
    ·exact cstv_rel M hz
    ·exact tup2 (cstv_rel M hz)
  ·rename_i hne
   split at h
   ·rename_i hok
    subst hok
    simp only [Option.map_eq_some_iff,Option.bind_eq_some_iff] at h
    obtain⟨z,⟨zv,hz1,hz2⟩,rfl⟩:=h
    refine⟨.read fun M a hM _ hr=>?_,rfl,rfl,rfl⟩
    have e1:=(hr x (by simp [ho,Op.operands]) _ hx).sc_inv
    refine⟨.tuple #[zv, .bool false],?_,tup2 (cstv_rel M hz2)⟩
    simp only [execOp,ho,e1,Instr.typeAssert,Sem.run_bind,run_underlying hu,Result.andThen_ok]
    cases kd<;>first | exact absurd rfl (hnot _) | simp [hne,qgv hz1]
   ·cases h
 ·rename_i k hni hk
  obtain⟨kd,hu,hkd⟩:=qaZ hk
  have hnot: ∀ms,kd≠ .interface ms:=by
   rintro ms rfl
   exact hni (und_iface hu hk)
  split at h
  ·rename_i hok
   subst hok
   simp only [Option.map_eq_some_iff,Option.bind_eq_some_iff] at h
   obtain⟨z,⟨zv,hz1,hz2⟩,rfl⟩:=h
   refine⟨.read fun M a hM _ hr=>?_,rfl,rfl,rfl⟩
   have e1:=(hr x (by simp [ho,Op.operands]) _ hx).sc_inv
   refine⟨.tuple #[zv, .bool false],?_,tup2 (cstv_rel M hz2)⟩
   simp only [execOp,ho,e1,Instr.typeAssert,Sem.run_bind,run_underlying hu,Result.andThen_ok]
   cases kd<;>first | exact absurd rfl (hnot _) | simp [qgv hz1]
  ·cases h
 ·cases h
end Go.Idl
/-
 Strings of bytes; slices' room where it is known; slices cleared.
-/
namespace Go.Idl
variable {P:Program} {o:Oper} {ρ:Operand→Option IV} {G:Nat→Option IBlk}
def qfx:List (List IV)→Option (List Int)
 | []=>some []
 | [.p (.sc (.int .u8 n))]::r=>(qfx r).map (n::·)
 | _=>none
def qip (l:List Int):ByteArray:=⟨(l.map fun n=>UInt8.ofNat n.toNat).toArray⟩
def fb2s (P:Program) (G:Nat→Option IBlk) (src dst:TypeId) (x:IV):Option FR:=match tkd P src,tkd P dst with
 | some (.slice e),some .string=>match tkd P e,qco G 1 x with
   | some (.int .u8),some (rs,R)=>(qfx rs).map fun l=> {x:= .p (.sc (.string (qip l))),R}
   | _,_=>none
 | _,_=>none
theorem qhF: ∀ {rs:List (List IV)} {l:List Int},qfx rs=some l→rs.length=l.length∧ ∀(i:Nat) (n:Int),l[i]? =some n→rs[i]? =some [.p (.sc (.int .u8 n))]
 | [],l,h=>by cases h;simp
 | row::r,l,h=>by
   unfold qfx at h
   split at h
   ·rename_i e;cases e
   ·rename_i n r' e
    cases e
    simp only [Option.map_eq_some_iff] at h
    obtain⟨l',h',rfl⟩:=h
    obtain⟨h1,h2⟩:=qhF h'
    refine⟨by simp [h1],fun i n hi=>?_⟩
    cases i with
    | zero=>simp at hi;subst hi;rfl
    | succ i=>exact h2 i n (by simpa using hi)
   ·cases h
theorem fold_push (l:List Int): ∀(s:ByteArray),l.foldl (fun r n=>r.push (UInt8.ofNat n.toNat)) s=⟨s.data++(l.map fun n=>UInt8.ofNat n.toNat).toArray⟩:=by
 induction l with
 | nil=>intro s;simp
 | cons n l ih=>
   intro s
   rw [List.foldl_cons,ih]
   congr 1
   simp [ByteArray.push]
theorem f_b2s {src dst:TypeId} {x:Operand} {zx:IV} {fr:FR} (ho:o.op= .convert src dst x) (hx:ρ x=some zx) (h:fb2s P G src dst zx=some fr):fr.ok P o ρ∧(∃rs,qco G 1 zx=some (rs,fr.R))∧fr.F= []∧fr.W= []:=by
 unfold fb2s at h
 split at h
 ·rename_i e h1 h2
  split at h
  ·rename_i rs R h3 h4
   simp only [Option.map_eq_some_iff] at h
   obtain⟨l,hl,rfl⟩:=h
   refine⟨.read fun M a hM hR hr=>?_,⟨rs,h4⟩,rfl,rfl⟩
   obtain⟨d1,u1,e1⟩:=qaZ h1
   obtain⟨d2,u2,e2⟩:=qaZ h2
   obtain⟨d3,u3,e3⟩:=qaZ h3
   simp only at e1 e2 e3
   subst e1 e2 e3
   obtain⟨ad,cap,f,RA⟩:=qek (P:=P) h4 hM hR (hr x (by simp [ho,Op.operands]) _ hx)
   obtain⟨g1,g2⟩:=qhF hl
   have hf: ∀(i:Nat) (n:Int),l[i]? =some n→f i= .int .u8 n:=by
    intro i n hi
    have:=RA.rel i _ 0 _ (g2 i n hi) rfl
    simp only [Nat.mul_one,Nat.add_zero] at this
    exact this.2.sc_inv
   have hcells:((List.range rs.length).map f).toArray=(l.map (Value.int .u8)).toArray:=by
    congr 1
    apply List.ext_getElem
    ·simp [g1]
    ·intro i h1 h2
     simp only [List.getElem_map,List.getElem_range]
     exact hf i _ (List.getElem?_eq_getElem (by simpa using h2))
   have hpre:=RA.pre rs.length (Nat.le_refl _)
   rw [Nat.mul_one,hcells] at hpre
   refine⟨.string (qip l),?_, .sc M _⟩
   have hs:qip l=l.foldl (fun r n=>r.push (UInt8.ofNat n.toNat)) ByteArray.empty:=by
    rw [fold_push]
    show qip l=⟨#[]++_⟩
    simp [qip]
   simp only [execOp,ho,RA.val]
   rw [Sem.run_bind,run_convert_bytes_string M.w src dst e ad rs.length cap u1 u3 u2]
   cases ad with
   | none=>
     rw [RA.val] at hpre
     simp only [Builtin.firstCells,Sem.run_pure,Result.ok.injEq] at hpre
     have hl0:l= []:=by
      have:=congrArg Array.size hpre.1
      simp at this
      exact List.eq_nil_of_length_eq_zero (by omega)
     subst hl0
     rfl
   | some ad=>
     rw [RA.val] at hpre
     simp only [Builtin.firstCells,Nat.mul_one] at hpre
     rw [run_bytesToString M.w ad rs.length cap l hpre,hs]
     rfl
  ·cases h
 ·cases h
def fcap:IV→Option FR
 | .p (.sc (.slice none 0 0))=>some {x:=sci .i64 0}
 | .p .emp=>some {x:=sci .i64 0}
 | _=>none
theorem f_cap {x:Operand} {t:TypeId} {zx:IV} {fr:FR} (ho:o.op= .call {callee:= .builtin .cap,args:=#[x],argTypes:=#[t]}) (hx:ρ x=some zx) (ht:(tel P t).isSome=true) (h:fcap zx=some fr):fr.ok P o ρ∧fr.R= []∧fr.F= []∧fr.W= []:=by
 obtain⟨e,he⟩:=Option.isSome_iff_exists.1 ht
 have hu:=und_tel he
 have key: ∀(M:Mem) (a:Act),(∃c,a.eval x= .slice c 0 0)→(execOp a.eval o).run P M.w= .ok (.value (.int .i64 0)) M.w:=by
  rintro M a ⟨c,hc⟩
  simp [execOp,ho,resolve,invoke,builtin,hc,Builtin.cap_,run_underlying hu,goInt]
 unfold fcap at h
 split at h
 ·simp only [Option.some.injEq] at h;subst h
  refine⟨.read fun M a _ _ hr=>⟨_,key M a ⟨none,?_⟩, .sc M _⟩,rfl,rfl,rfl⟩
  exact(hr x (by simp [ho,Op.operands,Call.operands]) _ hx).sc_inv
 ·simp only [Option.some.injEq] at h;subst h
  refine⟨.read fun M a _ _ hr=>⟨_,key M a ?_, .sc M _⟩,rfl,rfl,rfl⟩
  have hv:=hr x (by simp [ho,Op.operands,Call.operands]) _ hx
  generalize a.eval x=q at hv
  cases hv with
  | p _ _ hv=>cases hv with
    | emp c=>exact⟨c,rfl⟩
 ·cases h
/-! ### slices and nil -/
def fslnil (P:Program) (G:Nat→Option IBlk) (op:BinOp) (t:TypeId) (x y:IV):Option FR:=match x,y with
 | .p (.sc (.slice none 0 0)), .p (.sc (.slice none 0 0))=>if(tel P t).isSome then eqres op true else none
 | .p (.imm _ (_::_)), .p (.sc (.slice none 0 0))=>if(tel P t).isSome then eqres op false else none
 | .ref b g _ (_+1), .p (.sc (.slice none 0 0))=>match G b with
   | some (.arr sz g' rows)=>if(tel P t).isSome∧g=g' then(eqres op false).map fun fr=> {fr with R:= [(b, .arr sz g' rows)]} else none
   | _=>none
 | _,_=>none
theorem qjO {op:BinOp} {t:TypeId} {x y:Operand} {a:Option Addr} {l c:Nat} {fr:FR} (ht:(tel P t).isSome=true) (h:eqres op a.isNone=some fr) (w:World):
  ∃r,(do eqGuard op t x y (.slice a l c) (.slice none 0 0);binOp op t (.slice a l c) (.slice none 0 0):Sem Value).run P w= .ok (.bool r) w∧fr= {x:=scb r}:=by
 obtain⟨e,he⟩:=Option.isSome_iff_exists.1 ht
 have hu:=und_tel he
 have heq:(Op.equal t (.slice a l c) (.slice none 0 0)).run P w= .ok a.isNone w:=by
  have key: ∀d:Nat,(Op.equalIn (d+1) t (.slice a l c) (.slice none 0 0)).run P w= .ok a.isNone w:=by
   intro d
   cases a<;>simp [Op.equalIn,run_underlying hu]
  exact key 9999
 rw [Sem.run_bind,qaW op t x y (by simp) (by simp) w,Result.andThen_ok]
 refine eqres_run h heq fun r hr=>?_
 rcases hr with ⟨rfl,rfl⟩ | ⟨rfl,rfl⟩<;>simp [binOp,heq]
theorem qrD {op:BinOp} {t t':TypeId} {x y:Operand} {zx zy:IV} {fr:FR} (ho:o.op= .binOp op t x y t') (hx:ρ x=some zx) (hy:ρ y=some zy) (h:fslnil P G op t zx zy=some fr):
  fr.ok P o ρ∧(∀p∈fr.R,G p.1=some p.2)∧fr.F= []∧fr.W= []:=by
 have key: ∀ {b:Bool} {fr0:FR} {R:List (Nat × IBlk)},(tel P t).isSome=true→eqres op b=some fr0→
   (∀(M:Mem) (a:Act),MRel M→(∀p∈R,M.H.G p.1=some p.2)→(∀y∈o.op.operands,∀z,ρ y=some z→VRel M z (a.eval y))→ ∃ad l c,a.eval x= .slice ad l c∧a.eval y= .slice none 0 0∧ad.isNone=b)→
   qbh P o ρ R [] fr0.x []:=by
  intro b fr0 R ht h0 hk
  refine .read fun M a hM hR hr=>?_
  obtain⟨ad,l,c,e1,e2,e3⟩:=hk M a hM hR hr
  subst e3
  obtain⟨r,h1,h2⟩:=qjO (x:=x) (y:=y) (l:=l) (c:=c) ht h0 M.w
  refine⟨.bool r,?_,?_⟩
  ·simp only [execOp,ho,e1,e2]
   rw [Sem.run_bind,h1]
   rfl
  ·rw [h2];exact .sc M _
 have isb: ∀ {b:Bool} {fr0:FR},eqres op b=some fr0→fr0.R= []∧fr0.F= []∧fr0.W= []:=by
  intro b fr0 hb
  unfold eqres at hb
  split at hb<;>first | (cases hb;exact⟨rfl,rfl,rfl⟩) | cases hb
 unfold fslnil at h
 split at h
 ·split at h
  ·rename_i ht
   obtain⟨h1,h2,h3⟩:=isb h
   refine⟨?_,by rw [h1];simp,h2,h3⟩
   unfold FR.ok
   rw [h1,h2,h3]
   exact key ht h fun M a hM hR hr=>⟨none,0,0,(hr x (by simp [ho,Op.operands]) _ hx).sc_inv,(hr y (by simp [ho,Op.operands]) _ hy).sc_inv,rfl⟩
  ·cases h
 ·split at h
  ·rename_i s r rs ht
   obtain⟨h1,h2,h3⟩:=isb h
   refine⟨?_,by rw [h1];simp,h2,h3⟩
   unfold FR.ok
   rw [h1,h2,h3]
   refine key ht h fun M a hM hR hr=>?_
   have e2:=(hr y (by simp [ho,Op.operands]) _ hy).sc_inv
   have hv:=hr x (by simp [ho,Op.operands]) _ hx
   generalize a.eval x=q at hv
   cases hv with
   | p _ _ hv=>cases hv with
     | imm sz rows ad cap c o' f hl hm ha hs hc hr=>
       obtain⟨e,_⟩:=ha (by simp)
       exact⟨ad,_,cap,rfl,e2,by rw [e];rfl⟩
  ·cases h
 ·split at h
  ·rename_i b g off n sz g' rows hb
   split at h
   ·rename_i hc
    obtain⟨ht,rfl⟩:=hc
    simp only [Option.map_eq_some_iff] at h
    obtain⟨fr0,h0,rfl⟩:=h
    obtain⟨h1,h2,h3⟩:=isb h0
    refine⟨?_,by simpa using hb,h2,h3⟩
    unfold FR.ok
    simp only [h2,h3]
    refine key ht h0 fun M a hM hR hr=>?_
    have e2:=(hr y (by simp [ho,Op.operands]) _ hy).sc_inv
    have hv:=hr x (by simp [ho,Op.operands]) _ hx
    generalize a.eval x=q at hv
    cases hv with
    | ref b g off len v hA hv' hk=>
      have hG:M.H.G _=some _:=hR _ (List.mem_cons_self ..)
      obtain⟨_,hk2⟩:=hk _ hG
      obtain⟨ad,cap,e1,l1,_,_,l4⟩:=hk2 rfl
      rcases l4 with l4 | ⟨c,o',n',_,e,_⟩
      ·omega
      ·exact⟨ad,_,cap,e1,e2,by rw [e];rfl⟩
   ·cases h
  ·cases h
 ·cases h
end Go.Idl
/-
 Slices cleared.
-/
namespace Go.Idl
variable {P:Program} {o:Oper} {ρ:Operand→Option IV} {G:Nat→Option IBlk}
theorem qpT {M:Mem} (hM:MRel M) {b s g:Nat} {rows:List (List IV)} (hb:M.H.G b=some (.arr s g rows)) {c o' n:Nat} (hβ:M.β b=some (c,o',n)) {off m:Nat} {rx:List (List IV)} {news:List Value}
  (hm:rx.length=m) (hnl:news.length=m * s) (hwid: ∀row∈rx,row.length=s) (hone: ∀v∈news,v.oneCell'=true)
  (hrel: ∀(i:Nat) (row:List IV) (j:Nat) (y:IV),rx[i]? =some row→row[j]? =some y→ ∃u,news[i * s+j]? =some u∧u.oneCell'=true∧VRel M y u) (h3:off+m≤rows.length):
  ∃w',(storeCells ⟨c,o'+off * s,none⟩ news).run P M.w= .ok () w'∧qae M ⟨w',M.H.put b (.arr s g (rows.take off++rx++rows.drop (off+m))),M.β⟩∧
   MRel ⟨w',M.H.put b (.arr s g (rows.take off++rx++rows.drop (off+m))),M.β⟩:=by
 have hbr:=hM.blk b _ hb
 have widr: ∀row∈rows.take off++rx++rows.drop (off+m),row.length=s:=by
  intro row hrow
  simp only [List.mem_append] at hrow
  rcases hrow with (h | h) | h
  ·exact hbr.1 row (List.mem_of_mem_take h)
  ·exact hwid row h
  ·exact hbr.1 row (List.mem_of_mem_drop h)
 have hlen:(rows.take off++rx++rows.drop (off+m)).length=rows.length:=by
  simp only [List.length_append,List.length_take,List.length_drop];omega
 obtain⟨cur,tyb,q1,q2,q3,q4,q5⟩:=hbr.2.2 c o' n hβ
 have hk:off * s+m * s≤n * s:=by
  rw [←Nat.add_mul];exact Nat.mul_le_mul_right _ (by omega)
 have q40:=q4.1
 have hst:=run_storeCells_at P c (o'+off * s) tyb news 0 cur M.w q1 (by omega) hone
 simp only [Nat.add_zero,hnl] at hst
 have hcl:cur.toList.length=cur.size:=Array.length_toList
 obtain⟨st,r⟩:=mem_chg hM hb hβ q1 g o' n (rows.take off++rx++rows.drop (off+m))
  (cur.toList.take (o'+off * s)++news++cur.toList.drop (o'+off * s+m * s)).toArray
  (Nat.le_refl _) (fun _=>⟨rfl,rfl,hlen⟩) widr (by rw [hlen];exact q2) q3 (qbi.put q4 (by rw [hnl]) (by omega) hone) (by
   intro i row j y hi hj
   have hjl:=qab hj
   rw [widr row (List.mem_of_getElem? hi)] at hjl
   rw [List.getElem?_append,List.length_append,List.length_take,Nat.min_eq_left (show off≤rows.length by omega),hm] at hi
   split at hi
   ·rw [List.getElem?_append,List.length_take,Nat.min_eq_left (show off≤rows.length by omega)] at hi
    split at hi
    ·rename_i g1 g2
     rw [List.getElem?_take,if_pos g2] at hi
     obtain⟨u,u1,u2,u3⟩:=q5 i row j y hi hj
     refine⟨u,?_,u2,u3⟩
     have hlt:=qb6 (sz:=s) g2 hjl
     rw [List.getElem?_toArray,List.append_assoc,List.getElem?_append,List.length_take,if_pos (by omega),List.getElem?_take,if_pos (by omega),Array.getElem?_toList]
     exact u1
    ·rename_i g1 g2
     obtain⟨u,u1,u2,u3⟩:=hrel _ row j y hi hj
     refine⟨u,?_,u2,u3⟩
     have hlt:(i - off) * s+j < m * s:=qb6 (by omega) hjl
     have e:i * s=off * s+(i - off) * s:=by rw [←Nat.add_mul];congr 1;omega
     rw [List.getElem?_toArray,List.getElem?_append,List.length_append,List.length_take,hnl,if_pos (by omega),List.getElem?_append,List.length_take,if_neg (by omega),←u1]
     congr 1;omega
   ·rename_i g1
    rw [List.getElem?_drop] at hi
    rw [show off+m+(i - (off+m))=i by omega] at hi
    obtain⟨u,u1,u2,u3⟩:=q5 i row j y hi hj
    refine⟨u,?_,u2,u3⟩
    have hle:(off+m) * s≤i * s:=Nat.mul_le_mul_right _ (by omega)
    rw [Nat.add_mul] at hle
    rw [List.getElem?_toArray,List.getElem?_append,List.length_append,List.length_take,hnl,if_neg (by omega),List.getElem?_drop,Array.getElem?_toList,←u1]
    congr 1;omega)
 have hββ:putβ M.β b (some (c,o',n))=M.β:=by funext k;simp only [putβ];split<;>simp_all
 rw [hββ] at st r
 exact⟨_,hst,st,r⟩
theorem qq8 {M:Mem} (hM:MRel M) {b:Nat} {blk:IBlk} (hb:M.H.G b=some blk):M.H.put b blk=M.H:=by
 have hHG:(M.H.put b blk).G=M.H.G:=by funext k;simp only [AH.put];split<;>simp_all
 have hHA:(M.H.put b blk).A=M.H.A:=by
  funext k
  simp only [AH.put]
  exact propext ⟨fun h=>h.elim id (fun e=>e ▸hM.dom b _ hb), .inl⟩
 have hHO:(M.H.put b blk).O=M.H.O:=rfl
 show AH.mk _ _ _=_
 cases hMH:M.H with
 | mk A G' O'=>
   rw [hMH] at hHG hHA hHO
   exact AH.mk.injEq .. ▸⟨hHA,hHG,hHO⟩
def qfB (P:Program) (G:Nat→Option IBlk) (t:TypeId) (x:IV):Option FR:=
 match tel P t with
 | some e=>match x with
   | .p (.sc (.slice none 0 0))=>some {x:= .tup []}
   | .ref b g off len=>match tze P e,tsz P e,G b with
     | some zs,some sz,some (.arr s g' rows)=>
       if g=g'∧s=sz∧zs.length=sz∧zs.all (·.oneCell') then
        some {x:= .tup [],R:= [(b, .arr s g' rows)],W:= [(b, .arr s g (rows.take off++List.replicate len (zcs zs)++rows.drop (off+len)))]}
       else none
     | _,_,_=>none
   | _=>none
 | none=>none
theorem qcC {z:Array Value} {n k:Nat} (h:k < n * z.size):(Builtin.zeroCells z n).toList[k]? =z[k % z.size]? :=by
 have hp:=(qh4 (Nat.lt_of_le_of_lt (Nat.zero_le k) h)).2
 have hm:k % z.size < z.size:=Nat.mod_lt _ hp
 simp only [Builtin.zeroCells,Array.getElem?_toList,Array.getElem?_map,Array.getElem?_range,h,if_true,Option.map_some]
 rw [Array.getElem?_eq_getElem hm,getElem!_pos z _ hm]
theorem qbw (z:Array Value) (n:Nat):(Builtin.zeroCells z n).toList.length=n * z.size:=by simp [Builtin.zeroCells]
theorem qrw {t:TypeId} {x:Operand} {zx:IV} {fr:FR} (ho:o.op= .call {callee:= .builtin .clear,args:=#[x],argTypes:=#[t]}) (hx:ρ x=some zx) (h:qfB P G t zx=some fr):
  fr.ok P o ρ∧(∀p∈fr.R,G p.1=some p.2)∧fr.F= []∧ ∀p∈fr.W,∃blk,(p.1,blk)∈fr.R:=by
 unfold qfB at h
 split at h
 ·rename_i e he
  have hu:=und_tel he
  split at h
  ·simp only [Option.some.injEq] at h;subst h
   refine⟨.read fun M a hM _ hr=>⟨.tuple #[],?_,(.tup [] [] rfl (fun i x v h=>by simp at h))⟩,by simp,rfl,by simp⟩
   have ev:=(hr x (by simp [ho,Op.operands,Call.operands]) _ hx).sc_inv
   simp [execOp,ho,resolve,invoke,builtin,ev,Builtin.clear_,run_underlying hu]
  ·rename_i b g off len
   split at h
   ·rename_i zs sz s g' rows hz hs hG
    split at h
    ·rename_i hc
     obtain⟨rfl,rfl,hzl,h1⟩:=hc
     simp only [Option.some.injEq] at h;subst h
     refine⟨.does fun M a hM hR _ hr=>?_,by simpa using hG,rfl,by simp⟩
     have hb:M.H.G b=some (.arr s g rows):=hR (b,_) (by simp)
     obtain⟨z,hzc,hzr⟩:=qi6 hz
     obtain⟨a0,cap,ev,c1,c2,c3,c4⟩:=(hr x (by simp [ho,Op.operands,Call.operands]) _ hx).ref_inv hb rfl
     simp only [IBlk.len,IBlk.sz] at c2 c3 c4
     have hza:=qcs M h1
     have nop:(a0=none∨len=0)→(execOp a.eval o).run P M.w= .ok (.value (.tuple #[])) M.w:=by
      rintro hn
      cases len with
      | zero=>cases a0<;>simp [execOp,ho,resolve,invoke,builtin,ev,Builtin.clear_,run_underlying hu]
      | succ l=>
        rcases hn with rfl | hn
        ·simp [execOp,ho,resolve,invoke,builtin,ev,Builtin.clear_,run_underlying hu]
        ·omega
     rcases Nat.eq_zero_or_pos len with h0 | h0
     ·subst h0
      have hsame:rows.take off++List.replicate 0 (zcs zs)++rows.drop (off+0)=rows:=by simp
      rw [hsame]
      refine⟨.tuple #[],M,nop (.inr rfl), .refl M,hM,?_,(.tup [] [] rfl (fun i x v h=>by simp at h))⟩
      rw [qcr,qq8 hM hb]
     ·rcases c4 with c4 | ⟨c,o',n,hβ,ea,h5⟩
      ·omega
      ·subst ea
       obtain⟨w',q1,q2,q3⟩:=qpT (P:=P) hM hb hβ (off:=off) (m:=len) (rx:=List.replicate len (zcs zs)) (news:=(Builtin.zeroCells z.cells len).toList) (by simp)
        (by rw [qbw,hzc,←hzl];simp) (by intro row hrow;rw [List.eq_of_mem_replicate hrow];simp [zcs,hzl]) (by
         intro v hv
         obtain⟨k,hk,e⟩:=List.getElem_of_mem hv
         rw [qbw] at hk
         have:=qcC hk
         rw [List.getElem?_eq_getElem (by rw [qbw];exact hk),e] at this
         have hm:v∈z.cells:=Array.mem_of_getElem? this.symm
         rw [hzc] at hm
         exact hza.one v (by simpa using hm)) (by
         intro i row j y hi hj
         have hi':i < len:=by have:=qab hi;simpa using this
         rw [List.getElem?_replicate,if_pos hi'] at hi
         cases hi
         obtain⟨v,v1,v2,v3⟩:=hza.get hj
         have hjl:j < zs.length:=qab v1
         refine⟨v,?_,v2,v3⟩
         have hzz:z.cells.size=zs.length:=by rw [hzc];simp
         rw [←hzl,qcC (by rw [hzz];exact qb6 hi' hjl),hzz,Nat.mul_comm,Nat.mul_add_mod,Nat.mod_eq_of_lt hjl,hzc]
         simpa using v1) (by omega)
       refine⟨.tuple #[],⟨w',_,M.β⟩,?_,q2,q3,rfl,(.tup [] [] rfl (fun i x v h=>by simp at h))⟩
       obtain⟨l,rfl⟩: ∃l,len=l+1:=⟨len - 1,by omega⟩
       simp [execOp,ho,resolve,invoke,builtin,ev,Builtin.clear_,run_underlying hu,hzr,q1,Sem.run_bind]
    ·cases h
   ·cases h
  ·cases h
 ·cases h
end Go.Idl
/-
 Zeros laid behind a slice that is nil.
-/
namespace Go.Idl
variable {P:Program} {o:Oper} {ρ:Operand→Option IV} {G:Nat→Option IBlk}
def qhL (P:Program) (nx:Nat) (t1 t2:TypeId) (s x:IV):Option FR:=
 match tel P t1,tkd P t2 with
 | some e,some (.int _)=>match tsz P e,tby P e,tze P e with
   | some sz,some by_,some zs=>match s,x with
     | .p (.sc (.slice none 0 0)), .p (.sc (.int _ n))=>
       if zs.length=sz∧zs.all (·.oneCell')∧0 < n∧n≤9223372036854775807∧n.toNat * by_≤140737488355328 then
        some {x:= .ref nx 0 0 n.toNat,F:= [nx],W:= [(nx, .arr sz 0 (List.replicate n.toNat (zcs zs)))]}
       else none
     | _,_=>none
   | _,_,_=>none
 | _,_=>none
theorem qg3 {t1 t2 ty e:TypeId} {sz by_:Nat} {zs:List Value} {i:TypeInfo} {z:Value} {ki:IntKind} (u1:P.underlying t1=some (.slice e)) (u2:P.underlying t2=some (.int ki))
  (inf:P.info? e=some i) (size:i.size=sz) (bytes:i.bytes=by_) (zero:i.zero=some z) (zcl:z.cells=⟨zs⟩) (zl:zs.length=sz)
  {k:IntKind} {n:Nat} {w:World} (h0:0 < n) (h63:n≤maxLen) (hby:n * by_≤140737488355328):
  (Builtin.append_ #[t1,t2] ty #[.slice none 0 0, .int k (n:Int)]).run P w=
   .ok (.slice (some ⟨w.heap.size,0,none⟩) n (grownCap w n 0 e))
    (w.drew.alloc (.cells ((if n * sz=0 then #[] else Builtin.zeroCells z.cells n)++Builtin.zeroCells z.cells (grownCap w n 0 e - n)) e)):=by
 have hs: ∀w,(sizeOf e).run P w= .ok sz w:=qaC (show tsz P e=some sz by simp [tsz,inf,size])
 have hn: ¬(n≤0):=by omega
 have hfit:=growslice_fits (show(0:Nat) < n by omega) hby
 have h48: ¬(Builtin.nextslicecap n 0 * by_ > 2 ^ 48):=by simp only [Nat.reducePow];omega
 have hmx:IntKind.i64.max=9223372036854775807:=by decide
 have hw:IntKind.i64.wrap (n:Int)=n:=by
  unfold maxLen at h63
  rw [IntKind.wrap_i64];omega
 have hl0: ¬((n:Int) < 0):=by omega
 have hb0: ¬((n:Int) * (by_:Int) > 2 ^ 48):=by
  have:(n:Int) * (by_:Int)=((n * by_:Nat):Int):=by simp
  rw [this];omega
 have hti: ∀w,(typeInfo e).run P w= .ok i w:=fun w=>by simp [typeInfo,inf]
 have hze: ∀w,(zeroValue e).run P w= .ok z w:=fun w=>by simp [zeroValue,typeInfo,inf,zero]
 have hch: ∀w,(choose (.appendCap n 0 e)).run P w= .ok (grownCap w n 0 e) w.drew:=fun w=>by simp [Question.forced,grownCap]
 have has: ∀w,(asInt (.int k (n:Int))).run P w= .ok (n:Int) w:=fun w=>by simp [asInt,asIntOf]
 have hgt: ¬(((n:Nat):Int) > IntKind.i64.max∧(True∨by_=0)):=by
  rw [hmx];unfold maxLen at h63;omega
 unfold Builtin.append_
 simp only [List.getElem?_toArray,List.getElem?_cons_zero,List.getElem?_cons_succ,Sem.run_bind,run_underlying u1,Result.andThen_ok,run_underlying u2,Sem.run_pure,hs,if_true,has,hw,hl0,if_false,hti,bytes,hb0,Int.toNat_natCast,hn,
  Nat.zero_add,hgt,h48,hch,run_askRoom,Builtin.firstCells,Bool.not_true,Bool.false_eq_true]
 by_cases hz:n * sz=0
 ·simp only [hz,if_true,if_false,hn,hgt,Sem.run_pure,Result.andThen_ok,Sem.run_bind,hti,bytes,h48,hch,run_askRoom,hze,newRow,run_newObj,World.alloc_eq,World.size_drew,Array.empty_append]
 ·simp only [hz,if_true,if_false,hn,hgt,Sem.run_pure,Result.andThen_ok,Sem.run_bind,hti,bytes,h48,hch,run_askRoom,hze,newRow,run_newObj,World.alloc_eq,World.size_drew,Array.empty_append]
theorem f_appz {t1 t2:TypeId} {s x:Operand} {zs zx:IV} {nx:Nat} {fr:FR} (ho:o.op= .call {callee:= .builtin .append,args:=#[s,x],argTypes:=#[t1,t2]}) (hs:ρ s=some zs) (hx:ρ x=some zx)
  (h:qhL P nx t1 t2 zs zx=some fr):fr.ok P o ρ∧fr.R= []∧fr.F= [nx]∧ ∃blk,fr.W= [(nx,blk)]:=by
 unfold qhL at h
 split at h
 ·rename_i e ki he hk
  obtain⟨kd,hu2,hkd⟩:=qaZ hk
  have hu2: ∃kj,P.underlying t2=some (.int kj):=by
   cases kd<;>simp_all
  obtain⟨kj,hu2⟩:=hu2
  split at h
  ·rename_i sz by_ zs' hz hb hz'
   split at h
   ·rename_i k n
    split at h
    ·rename_i hc
     obtain⟨c1,c2,c3,c4,c5⟩:=hc
     simp only [Option.some.injEq] at h;subst h
     refine⟨?_,rfl,rfl,_,rfl⟩
     cases hi:P.info? e with
     | none=>simp [tsz,hi] at hz
     | some i=>
       simp only [tsz,tby,tze,hi,Option.map_some,Option.some.injEq,Option.bind_some] at hz hb hz'
       cases hiz:i.zero with
       | none=>simp [hiz] at hz'
       | some z=>
         simp only [hiz,Option.map_some,Option.some.injEq] at hz'
         obtain⟨m,rfl⟩:=Int.eq_ofNat_of_zero_le (show 0≤n by omega)
         simp only [Int.toNat_natCast] at *
         refine .does fun M a hM _ hF hr=>?_
         have e1:=(hr s (by simp [ho,Op.operands,Call.operands]) _ hs).sc_inv
         have e2:=(hr x (by simp [ho,Op.operands,Call.operands]) _ hx).sc_inv
         have hm:0 < m:=by omega
         have h63:m≤maxLen:=by unfold maxLen;omega
         have hzc:z.cells=⟨zs'⟩:=by rw [←hz']
         have hzl:z.cells.size=zs'.length:=by rw [hzc];simp
         have hrun:=qg3 (P:=P) (ty:=o.type) (und_tel he) hu2 hi hz hb hiz hzc c1 (k:=k) (n:=m) (w:=M.w) hm h63 c5
         have hza:=qcs (⟨M.w.drew,M.H,M.β⟩:Mem) c2
         have s1:=qae.drew M
         have hM1:=hM.drew
         have hge:=grownCap_ge M.w m 0 e
         have hmx:=grownCap_le_maxLen M.w m 0 e h63
         generalize grownCap M.w m 0 e=C at *
         have hrest:(Builtin.zeroCells z.cells (C - m)).size=(C - m) * sz:=by rw [←Array.length_toList,qbw,hzl,c1]
         have hnew:(if m * sz=0 then #[] else Builtin.zeroCells z.cells m).size=m * sz:=by
          split
          ·rename_i h0;rw [h0];rfl
          ·rw [←Array.length_toList,qbw,hzl,c1]
         obtain⟨s2,r2⟩:=qda hM1 nx (hF nx (by simp)) sz 0 C (List.replicate m (zcs zs')) ((if m * sz=0 then #[] else Builtin.zeroCells z.cells m)++Builtin.zeroCells z.cells (C - m)) e
          (by intro row hrow;rw [List.eq_of_mem_replicate hrow];simp [zcs,c1]) (by simp;exact hge) hmx (qbi.all (by
           rw [Array.size_append,hnew,hrest,←Nat.add_mul]
           exact Nat.mul_le_mul_right _ (by omega)) (by
           have hz1: ∀u∈z.cells.toList,u.oneCell'=true:=fun u hu=>by
            rw [hzc] at hu
            exact List.all_eq_true.1 c2 u hu
           intro v hv
           rw [Array.toList_append,List.mem_append] at hv
           rcases hv with h | h
           ·split at h
            ·simp at h
            ·exact zeroCells_one hz1 v h
           ·exact zeroCells_one hz1 v h)) (by
           intro i' row j y hi' hj
           have hi2:i' < m:=by have:=qab hi';simpa using this
           rw [List.getElem?_replicate,if_pos hi2] at hi'
           cases hi'
           obtain⟨v,v1,v2,v3⟩:=hza.get hj
           have hjl:j < zs'.length:=qab v1
           refine⟨v,?_,v2,v3⟩
           have hlt:i' * sz+j < m * sz:=qb6 hi2 (by omega)
           rw [Array.getElem?_append,if_pos (by rw [hnew];exact hlt),if_neg (by omega),←Array.getElem?_toList,←c1,qcC (by rw [hzl,c1];exact hlt),hzl,Nat.mul_comm,Nat.mul_add_mod,Nat.mod_eq_of_lt hjl,hzc]
           simpa using v1)
         refine⟨.slice (some ⟨M.w.heap.size,0,none⟩) m C,⟨_,_,_⟩,?_,s1.trans s2,r2,rfl, .ref nx 0 0 m _ (.inr rfl) ⟨_,_,rfl⟩ fun blk hblk=>?_⟩
         ·simp only [execOp,ho,resolve,invoke,builtin,Sem.run_bind,Sem.run_pure,Result.andThen_ok,List.map_toArray,List.map_cons,List.map_nil,e1,e2,hrun]
         ·simp only [AH.put,if_true,Option.some.injEq] at hblk
          subst hblk
          exact⟨Nat.le_refl _,fun _=>⟨_,_,rfl,hge,by simp [IBlk.len],by simp [IBlk.len];exact hge, .inr ⟨M.w.heap.size,0,C,by simp [putβ],by simp,by omega⟩⟩⟩
    ·cases h
   ·cases h
  ·cases h
 ·cases h
end Go.Idl
