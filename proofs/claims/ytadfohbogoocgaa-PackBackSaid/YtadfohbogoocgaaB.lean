import Derived.Test.YtadfohbogoocgaaWMore
import Derived.Lib.ConvBytes
namespace Go.Proofs.YtadfohbogoocgaaB
open Go.RowKit Go.Proofs.YtadfohbogoocgaaW.PrintWords Go.Proofs.YtadfohbogoocgaaW.PrintLast Go.Proofs.YtadfohbogoocgaaW.PrintMore
set_option linter.unusedVariables false
def Kd.B (d : Kd Int) (e : Nat) (w : World) (base : Nat) (ok : Nat → Prop) (v : Value) (xs : List Int) : Prop :=
  ∃ (g cap : Nat) (cs : Array Value), v = .slice (some ⟨g, 0, none⟩) xs.length cap ∧ ok g ∧ base ≤ g ∧ xs.length ≤ cap ∧ w.heap[g]? = some (.cells cs e (cs.size, cs.size + 1)) ∧ (xs.length ≤ cs.size ∧ xs.length ≤ 9223372036854775807) ∧ ∀ i, i < xs.length → cs[i]? = some (.int .u8 (xs.getD i 0))
section
variable {d : Kd Int} {e : Nat} {w w1 W : World} {base : Nat} {ok ok' : Nat → Prop} {v u : Value} {xs : List Int} {g n cap : Nat}
end
section
variable {P : Program} {ops : Array Oper} {rest : List Oper} {o : Oper} {a : Act} {Q : Exit → Act → World → Prop} {Kc : Act → World → Prop}
end
end Go.Proofs.YtadfohbogoocgaaB
