/- A part of the proof: what the program does, step by step, over values without addresses. No conditions of mine. -/
import Derived.Test.YtadfohbogoocgaaN53
import Derived.Test.YtadfohbogoocgaaRunN48toE5
set_option linter.unusedVariables false
set_option linter.unusedSimpArgs false
namespace Go.Ai
open Go Go.RowKit Go.Proofs Go.Sp
variable {X : FuncId → List V → List (Nat × List V) → V → List (Nat × List V) → List Blk → Prop}
set_option maxRecDepth 10000
set_option maxHeartbeats 4000000
set_option linter.unusedVariables false
set_option linter.unusedSimpArgs false
theorem packetsNil : AF Try.prog X 29 [.isl 4 []] (.tup []) := by
  refine ac_mk (by kernel_rfl) Try.func29 rfl (lb rfl) rfl rfl ?_
  repeat (first | refine aw_loop ?_ | refine ao_e rfl rfl rfl rfl rfl ?_ | refine ao_eff (v := V.val (Value.bool true)) (ups := []) rfl rfl rfl rfl ?_ | refine ao_eff (v := V.val (Value.bool false)) (ups := []) rfl rfl rfl rfl ?_ | refine aw_seq ?_ | refine aw_region ?_ | refine aw_block ?_ | refine ao_nil ⟨fun h => (Bool.false_ne_true h).elim, ?_⟩ | refine ao_nil ⟨fun _ => ⟨by kernel_rfl, by kernel_rfl⟩, ?_⟩ | refine ao_skip rfl rfl rfl ?_ | refine aw_true rfl ?_ | refine aw_false rfl ?_ | refine aw_skip ?_ | refine aw_exit ?_)
  exact ⟨.inl rfl, _, _, _, _, _, rfl, rfl, rfl, rfl, rfl, rfl⟩
theorem packetsEmp : AF Try.prog X 29 [.emp] (.tup []) := af_wk (by exact ⟨.nil _, trivial⟩) packetsNil
theorem eqNil : AF Try.prog X 28 [.emp, .emp] (vo true) := af_wk (by exact ⟨.nil _, .nil _, trivial⟩) (eqPackets (X := X) [] [] (by decide))
theorem eatB_nil {k : Blk} {len : Nat} {es : List (List Value)} (hw : k.wr = true) (h0 : 0 < len) : eatB k len es [] = true := by
  unfold eatB
  simp [hw, h0]
/-- What both make of a net that may be, hurt. -/
theorem hurtBoth (l : List K) (hm : mayK l = true) (n at_ by_ : Int) : ∃ (hv : V) (e : Int), AF Try.prog XX 20 [.isl 4 (l.map kC), vi n, vi at_, vi by_] (.tup [hv, vi e]) ∧ AF Try.prog XX 34 [.isl 4 (l.map kC), vi n, vi at_, vi by_] (.tup [hv, vi e]) ∧ (hv = .emp ∨ ∃ r : List K, hv = .isl 4 (r.map kC) ∧ r.length ≤ 1000) := by
  have hl : l.length ≤ 40 := by unfold mayK at hm; simp only [Bool.and_eq_true, decide_eq_true_eq] at hm; exact hm.1
  by_cases h : at_ < 0 ∨ by_ < 0
  · exact ⟨.emp, 1, wireHurtNo l n at_ by_ h, refHurtNo l n at_ by_ h, .inl rfl⟩
  · have ha : 0 ≤ at_ := by omega
    have hb : 0 ≤ by_ := by omega
    by_cases hn : 0 ≤ n ∧ n < (l.length : Int)
    · obtain ⟨m, rfl⟩ : ∃ m : Nat, n = m := ⟨n.toNat, by omega⟩
      have hn2 : m < l.length := by omega
      have h1 := wireHurt l hm m hn2 at_ by_ ha hb
      have h2 := refHurt (X := XX) l (by omega) m hn2 at_ by_ ha hb
      unfold hurtX at h1 h2
      split at h1
      · rename_i hc
        rw [if_pos hc] at h2
        exact ⟨_, _, h1, h2, .inl rfl⟩
      · rename_i hc
        rw [if_neg hc] at h2
        exact ⟨_, _, h1, h2, .inr ⟨_, rfl, by rw [List.length_set]; omega⟩⟩
    · have e3 : askE l n = 3 := by unfold askE; rw [hm, if_pos rfl, if_pos (by omega)]
      have h1 := wireHurtAsk l (by omega) n at_ by_ ha hb (by rw [e3]; decide)
      rw [e3] at h1
      exact ⟨.emp, 3, h1, refHurtAsk l (by omega) n at_ by_ ha hb hn, .inl rfl⟩
theorem hurtNone (l : List K) (hl : l.length ≤ 1000) (hm : mayK l = false) (n at_ by_ : Int) : AF Try.prog XX 20 [.isl 4 (l.map kC), vi n, vi at_, vi by_] (.tup [.emp, vi 1]) := by
  by_cases h : at_ < 0 ∨ by_ < 0
  · exact wireHurtNo l n at_ by_ h
  · have e1 : askE l n = 1 := by unfold askE; rw [hm]; rfl
    have := wireHurtAsk l hl n at_ by_ (by omega) (by omega) (by rw [e1]; decide)
    rw [e1] at this
    exact this
/-- What both make of a net that may be, picked and doubled. -/
theorem pickBoth (l : List K) (hm : mayK l = true) (n : Int) : ∃ (q : K) (rv dv : V) (e f : Int) (ok : Bool), AF Try.prog XX 30 [.isl 4 (l.map kC), vi n] (.tup [.agg (kC q), rv, vi e]) ∧ AF Try.prog XX 32 [.isl 4 (l.map kC), vi n] (.tup [.agg (kC q), rv, vo ok]) ∧
    AF Try.prog XX 31 [.isl 4 (l.map kC), vi n] (.tup [dv, vi f]) ∧ AF Try.prog XX 33 [.isl 4 (l.map kC), vi n] (.tup [dv, vi f]) ∧
    ((ok = true ∧ e = 0 ∧ ∃ r : List K, rv = .isl 4 (r.map kC) ∧ r.length ≤ 1000) ∨ (ok = false ∧ e = 3 ∧ q = k0 ∧ rv = .emp)) ∧ (dv = .emp ∨ ∃ r : List K, dv = .isl 4 (r.map kC) ∧ r.length ≤ 1000) := by
  have hl : l.length ≤ 40 := by unfold mayK at hm; simp only [Bool.and_eq_true, decide_eq_true_eq] at hm; exact hm.1
  by_cases hn : 0 ≤ n ∧ n < (l.length : Int)
  · obtain ⟨m, rfl⟩ : ∃ m : Nat, n = m := ⟨n.toNat, by omega⟩
    have hn2 : m < l.length := by omega
    have h3 := wireDouble l hm m hn2
    have h4 := refDouble (X := XX) l (by omega) m hn2
    have hpl : (pickL l m).length = l.length - 1 := by unfold pickL; rw [List.length_append, List.length_take, List.length_drop]; omega
    by_cases h40 : l.length < 40
    · rw [if_pos h40] at h3 h4
      exact ⟨_, _, _, _, _, _, wirePick l hm m hn2, refPick (X := XX) l (by omega) m hn2, h3, h4, .inl ⟨rfl, rfl, _, rfl, by omega⟩, .inr ⟨_, rfl, by rw [List.length_append]; simp only [List.length_singleton]; omega⟩⟩
    · rw [if_neg h40] at h3 h4
      exact ⟨_, _, _, _, _, _, wirePick l hm m hn2, refPick (X := XX) l (by omega) m hn2, h3, h4, .inl ⟨rfl, rfl, _, rfl, by omega⟩, .inl rfl⟩
  · have e3 : askE l n = 3 := by unfold askE; rw [hm, if_pos rfl, if_pos (by omega)]
    have h1 := wirePickNo l (by omega) n (by rw [e3]; decide)
    have h3 := wireDoubleNo l (by omega) n (by rw [e3]; decide)
    rw [e3] at h1 h3
    exact ⟨_, _, _, _, _, _, h1, refPickNo (X := XX) l (by omega) n hn, h3, refDoubleNo (X := XX) l (by omega) n hn, .inr ⟨rfl, rfl, rfl, rfl⟩, .inl rfl⟩
theorem numsL_len (N : List Int) : 6 ≤ (numsL N).length ∧ (numsL N).length ≤ 12 := by
  unfold numsL
  rw [List.length_take, List.length_append]
  constructor
  · show 6 ≤ min 12 (6 + N.length); omega
  · omega
end Go.Ai
