/- Facts that the proofs of this claim lean on. -/
import Derived.Test.YtfhhdgkhajkapaaGreatNzP2
import Derived.Test.YtfhhdgkhajkapaaGreatNWk
set_option linter.unusedSimpArgs false
set_option linter.unusedVariables false
/- What a node may tell: the program's answer. -/
namespace Go.Proofs.NO
open Go Go.Idl Go.Proofs
set_option maxHeartbeats 20000000
set_option maxRecDepth 100000
def MsgP (last:Int) (x:Int × Int):Prop:=last < x.1∧x.1≤500∧0≤x.2∧x.2≤3
def RisP:Int→List (Int × Int)→Prop
 | _, []=>True
 | last,x::r=>MsgP last x∧RisP x.1 r
def LetsP (l:List Int):Prop:= ∀(j:Nat) (x:Int),j < l.length→l[j]? =some x→0≤x∧x≤3
def ToldP (p:Pc):Prop:=0≤p.steps∧p.steps≤2147483647∧p.sent.length≤5∧p.inn.length≤5∧p.out.length≤5∧(∀(j:Nat) (x:Int),j < p.sent.length→p.sent[j]? =some x→0≤x∧x≤500)∧(∀(j:Nat) (l:List (Int × Int)),j < p.inn.length→p.inn[j]? =some l→RisP 0 l)∧ ∀(j:Nat) (l:List Int),j < p.out.length→p.out[j]? =some l→l.length≤500∧LetsP l
def qjv (p:Pc):Prop:=(0≤p.node∧p.node≤5)∧(0≤p.state∧p.state≤7)∧ToldP p
end Go.Proofs.NO
