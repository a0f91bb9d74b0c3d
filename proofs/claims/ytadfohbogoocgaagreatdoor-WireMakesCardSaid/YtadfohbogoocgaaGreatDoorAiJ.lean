/- A part of the proof: what the program does, step by step, over values without addresses. No conditions of mine. -/
import Derived.Test.YtadfohbogoocgaaGreatDoorCoreAiZ7toAiF
set_option linter.unusedVariables false
set_option linter.unusedSimpArgs false
namespace Go.Ai
open Go Go.RowKit
set_option linter.unusedVariables false
set_option linter.unusedSimpArgs false
variable {P : Program} {X : FuncId → List V → List (Nat × List V) → V → List (Nat × List V) → List Blk → Prop}

theorem lend0_hr {h h' : Nat → Option Blk} {v : V} (hh : ∀ b ∈ ref0 v, h' b = h b) : lend0 h' v = lend0 h v := by
  cases v with
  | nsl b ver sz es =>
    simp only [lend0]
    unfold live
    rw [hh b (by simp [ref0])]
  | _ => rfl
theorem lend1_hr {h h' : Nat → Option Blk} {v : V} (hh : ∀ b ∈ ref1 v, h' b = h b) : lend1 h' v = lend1 h v := by
  by_cases ha : ∃ cs, v = .agg cs
  · obtain ⟨cs, rfl⟩ := ha
    simp only [lend1]
    congr 1
    exact List.map_congr_left fun c hc => lend0_hr (fun b hb => hh b (List.mem_flatMap.2 ⟨c, hc, hb⟩))
  · have e : ∀ h, lend1 h v = lend0 h v := fun h => by cases v <;> first | rfl | exact absurd ⟨_, rfl⟩ ha
    have e2 : ref1 v = ref0 v := by cases v <;> first | rfl | exact absurd ⟨_, rfl⟩ ha
    rw [e, e]
    exact lend0_hr (fun b hb => hh b (by rw [e2]; exact hb))

/-- A call of values alone: what lists it hands back are new. -/
theorem ao_new {nt rid : Nat} {ops : Array Oper} {i : Nat} {l : List Nat} {σ : St} {Q : List Rec → St → Prop} {o : Oper} {fo : Operand} {args : Array Operand} {ats : Array TypeId} {f : FuncId} {as : List V} {res : V}
    (ho : ops[i]? = some o) (hg : guardV ops σ.s o = some true) (hd : dstOk nt o = true) (hop : o.op = .call ⟨.value fo, args, ats⟩) (hf : calleeOf (evalO σ.s fo) = some f)
    (hvs : args.toList.map (evalO σ.s) = as) (hc : AF P X f as res) (hval : as.all ns1 = true) (hclo : clo2 res = true)
    (h : AO P X nt rid ops l (σ.to' o.dst (nsf (newId (siteOf rid i) 0) (nextVer σ.h (newId (siteOf rid i) 0)) res) [(newId (siteOf rid i) 0, tokB (nextVer σ.h (newId (siteOf rid i) 0)))])
      (fun recs σ' => Q (recDo i o (siteOf rid i) (valsOf o σ.s) σ.h (nsf (newId (siteOf rid i) 0) (nextVer σ.h (newId (siteOf rid i) 0)) res) [(newId (siteOf rid i) 0, tokB (nextVer σ.h (newId (siteOf rid i) 0)))] :: recs) σ')) : AO P X nt rid ops (i :: l) σ Q := by
  rw [to'_eq] at h
  obtain ⟨recs, σ', h1, h2⟩ := h
  have e := next_hr (site := siteOf rid i) (vals := valsOf o σ.s) (h := σ.h) (j := 0) (by omega)
  refine ⟨_, σ', .fresh ho hg hd hop hf hc.1 hvs hval hc.2.2.2 hclo (by rw [e]; exact h1), ?_⟩
  rw [e]; exact h2

/-- A call that reads, new lists too, and hands back no list. -/
theorem ao_peek {nt rid : Nat} {ops : Array Oper} {i : Nat} {l : List Nat} {σ : St} {Q : List Rec → St → Prop} {o : Oper} {fo : Operand} {args : Array Operand} {ats : Array TypeId} {f : FuncId} {as : List V} {res : V}
    (ho : ops[i]? = some o) (hg : guardV ops σ.s o = some true) (hd : dstOk nt o = true) (hop : o.op = .call ⟨.value fo, args, ats⟩) (hf : calleeOf (evalO σ.s fo) = some f)
    (hvs : (args.toList.map (evalO σ.s)).map (lend1 σ.h) = as) (hc : AF P X f as res) (hclo : as.all clo1 = true) (hns : ns2 res = true)
    (h : AO P X nt rid ops l (σ.to' o.dst res []) (fun recs σ' => Q (recDo i o (siteOf rid i) (valsOf o σ.s) σ.h res [] :: recs) σ')) : AO P X nt rid ops (i :: l) σ Q := by
  rw [to'_eq] at h
  obtain ⟨recs, σ', h1, h2⟩ := h
  have hvals : valsOf o σ.s = evalO σ.s fo :: args.toList.map (evalO σ.s) := by simp [valsOf, hop, Op.operands, Call.operands]
  have e : (args.toList.map (evalO σ.s)).map (lend1 (hrAt (siteOf rid i) (valsOf o σ.s) σ.h)) = as := by
    rw [← hvs]
    refine List.map_congr_left fun v hv => lend1_hr (fun b hb => ?_)
    unfold hrAt
    refine restrict_in ?_
    rw [hvals]
    exact (call_ids v hv b hb).1
  exact ⟨_, σ', .peek ho hg hd hop hf hc.1 (by rw [e]; exact hc.2.2.2) (by rw [e]; exact hclo) hns h1, h2⟩

/-- A call that writes over a new list. -/
theorem ao_eatn {nt rid : Nat} {ops : Array Oper} {i : Nat} {l : List Nat} {σ : St} {Q : List Rec → St → Prop} {o : Oper} {fo : Operand} {args : Array Operand} {ats : Array TypeId} {f : FuncId} {b ver sz : Nat} {es : List (List V)} {k : Blk}
    (ho : ops[i]? = some o) (hg : guardV ops σ.s o = some true) (hd : dstOk nt o = true) (hop : o.op = .call ⟨.value fo, args, ats⟩) (hf : calleeOf (evalO σ.s fo) = some f)
    (hvs : args.toList.map (evalO σ.s) = [.nsl b ver sz es]) (hk : live σ.h b ver = some k) (hcb : callable P f = true) (he : EatNOk P f sz es)
    (h : AO P X nt rid ops l (σ.to' o.dst (.val (.tuple #[])) [(b, tokB (ver + 1))]) (fun recs σ' => Q (recDo i o (siteOf rid i) (valsOf o σ.s) σ.h (.val (.tuple #[])) [(b, tokB (ver + 1))] :: recs) σ')) : AO P X nt rid ops (i :: l) σ Q := by
  rw [to'_eq] at h
  obtain ⟨recs, σ', h1, h2⟩ := h
  have hvals : valsOf o σ.s = evalO σ.s fo :: args.toList.map (evalO σ.s) := by simp [valsOf, hop, Op.operands, Call.operands]
  have hlv : live (hrAt (siteOf rid i) (valsOf o σ.s) σ.h) b ver = some k := by
    rw [hvals, hvs]
    rw [live_hr (v := .nsl b ver sz es) (by simp) (by simp [ref0])]
    exact hk
  exact ⟨_, σ', .eatn ho hg hd hop hf hcb hvs hlv he h1, h2⟩
end Go.Ai
