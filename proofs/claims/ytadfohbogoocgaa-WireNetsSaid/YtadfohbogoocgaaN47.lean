/- A part of the proof: what the program does, step by step, over values without addresses. No conditions of mine. -/
import Derived.Test.YtadfohbogoocgaaN44
import Derived.Test.YtadfohbogoocgaaCoreAiWbtoAiWc
set_option linter.unusedVariables false
set_option linter.unusedSimpArgs false
namespace Go.Ai
open Go Go.RowKit Go.Proofs Go.Sp
variable {X : FuncId → List V → List (Nat × List V) → V → List (Nat × List V) → List Blk → Prop}
set_option maxRecDepth 10000
set_option maxHeartbeats 4000000
set_option linter.unusedVariables false
set_option linter.unusedSimpArgs false
theorem cloneOut (l : List K) (hne : l ≠ []) (hl : l.length ≤ 1000000000000) : AC Try.prog X 52 [.isl 4 (l.map kC)] [] (.sl 0 0 0 l.length) [] [⟨0, 4, true, true, l.map kC⟩] := by
  obtain ⟨x, r, rfl⟩ : ∃ x r, l = x :: r := by
    cases l with
    | nil => exact absurd rfl hne
    | cons x r => exact ⟨x, r, rfl⟩
  have hlm : ((x :: r).map kC).length = (x :: r).length := List.length_map ..
  refine ac_mk (by kernel_rfl) Try.func52 rfl (lb rfl) rfl rfl ?_
  repeat (first | refine ao_e rfl rfl rfl rfl rfl ?_ | refine ao_eff (v := V.val (Value.bool true)) (ups := []) rfl rfl rfl rfl ?_ | refine ao_eff (v := V.val (Value.bool false)) (ups := []) rfl rfl rfl rfl ?_ | refine aw_seq ?_ | refine aw_region ?_ | refine aw_block ?_ | refine ao_nil ⟨fun h => (Bool.false_ne_true h).elim, ?_⟩ | refine ao_nil ⟨fun _ => ⟨by kernel_rfl, by kernel_rfl⟩, ?_⟩ | refine ao_skip rfl rfl rfl ?_ | refine aw_true rfl ?_ | refine aw_false rfl ?_ | refine aw_skip ?_ | refine aw_exit ?_)
  refine ao_e rfl rfl rfl rfl (ef_append (xs := (x :: r).map kC) (es' := (x :: r).map kC) (len' := (x :: r).length) (by_ := 40) rfl rfl rfl rfl rfl rfl rfl (Nat.zero_le _) (by omega) (List.nil_append _) (by omega)) ?_
  repeat (first | refine ao_e rfl rfl rfl rfl rfl ?_ | refine ao_eff (v := V.val (Value.bool true)) (ups := []) rfl rfl rfl rfl ?_ | refine ao_eff (v := V.val (Value.bool false)) (ups := []) rfl rfl rfl rfl ?_ | refine aw_seq ?_ | refine aw_region ?_ | refine aw_block ?_ | refine ao_nil ⟨fun h => (Bool.false_ne_true h).elim, ?_⟩ | refine ao_nil ⟨fun _ => ⟨by kernel_rfl, by kernel_rfl⟩, ?_⟩ | refine ao_skip rfl rfl rfl ?_ | refine aw_true rfl ?_ | refine aw_false rfl ?_ | refine aw_skip ?_ | refine aw_exit ?_)
  exact aw_ret (ret_outs (fn := Try.f52) rfl rfl rfl (Nat.le_of_eq hlm.symm) rfl)
/-- a store of a whole element of a row -/
theorem ef_strow {P : Program} {h : Nat → Option Blk} {site : Nat} {α : Type} (enc : α → List V) (l : List α) (a : α) {T : TypeId} {x y : Operand} {b ver i sz : Nat} {w c : Bool} (hk : live h b ver = some ⟨ver, sz, w, c, l.map enc⟩) (hi : i < l.length) (hs : sizeT P T = some sz)
    (hl : ∀ u ∈ a :: l, (enc u).length = sz) (hc : (w && (enc a).all cellOk && (enc a).all clo0) = true) :
    eff P site (.store T x y) [.ptr b ver i 0, .agg (enc a)] h = some (.any, [(b, ⟨ver, sz, w, c && true, (l.set i a).map enc⟩)]) := by
  simp only [Bool.and_eq_true] at hc
  obtain ⟨⟨c1, c2⟩, c3⟩ := hc
  have hg : (l.map enc)[i]? = some (enc l[i]) := by rw [List.getElem?_map, List.getElem?_eq_getElem hi]; rfl
  have h1 : (enc a).length = sz := hl a (by simp)
  have h2 : (enc l[i]).length = sz := hl _ (List.mem_cons_of_mem _ (List.getElem_mem hi))
  show effStore P T (.ptr b ver i 0) (.agg (enc a)) h = _
  simp only [effStore, hk, hs, hg]
  rw [if_pos ⟨c1, h1, by omega, c2⟩]
  show some (V.any, [(b, ({ ver := ver, sz := sz, wr := w, cl := c && (enc a).all clo0, es := (l.map enc).set i (splice (enc l[i]) 0 (enc a)) } : Blk))]) = _
  have e : splice (enc l[i]) 0 (enc a) = enc a := by
    unfold splice
    rw [List.take_zero, List.nil_append, List.drop_of_length_le (by omega), List.append_nil]
  rw [e, c3, List.map_set]
def hurtX (l : List K) (n : Nat) (k : K) (at_ by_ : Int) : V := if k.f3 = true ∨ k.f2.size = 0 then .tup [.emp, vi 5] else .tup [.isl 4 ((l.set n (hurtK k at_ by_)).map kC), vi 0]
theorem wireHurtNo (l : List K) (n at_ by_ : Int) (h : at_ < 0 ∨ by_ < 0) : AF Try.prog XX 20 [.isl 4 (l.map kC), vi n, vi at_, vi by_] (.tup [.emp, vi 1]) := by
  refine ac_mk (by kernel_rfl) Try.func20 rfl (lb rfl) rfl rfl ?_
  repeat' (first | refine ao_e rfl rfl rfl rfl rfl ?_ | refine ao_eff (v := V.val (Value.bool true)) (ups := []) rfl rfl rfl rfl ?_ | refine ao_eff (v := V.val (Value.bool false)) (ups := []) rfl rfl rfl rfl ?_ | refine aw_seq ?_ | refine aw_region ?_ | refine aw_block ?_ | refine ao_nil ⟨fun h => (Bool.false_ne_true h).elim, ?_⟩ | refine ao_nil ⟨fun _ => ⟨by kernel_rfl, by kernel_rfl⟩, ?_⟩ | refine ao_skip rfl rfl rfl ?_ | refine aw_true rfl ?_ | refine aw_false rfl ?_ | refine aw_skip ?_ | refine aw_exit ?_ | refine ao_dec rfl rfl rfl (eqE _ _ _ _ _ _).1 (fun hb => ?_) (fun hb => ?_) | refine ao_ndec rfl rfl rfl (eqE _ _ _ _ _ _).2 (fun hb => ?_) (fun hb => ?_) | refine ao_dec rfl rfl rfl rfl (fun hb => ?_) (fun hb => ?_) | refine ao_ndec rfl rfl rfl rfl (fun hb => ?_) (fun hb => ?_) | refine ao_str rfl rfl rfl rfl (fun hb => ?_) (fun hb => ?_) | refine ao_nstr rfl rfl rfl rfl (fun hb => ?_) (fun hb => ?_) | refine ao_bool rfl rfl rfl rfl (fun hb => ?_) (fun hb => ?_) | refine aw_ret ⟨.inr rfl, _, _, _, _, _, rfl, rfl, rfl, rfl, ?_, rfl⟩)
  all_goals first | rfl | (exfalso; omega)
theorem wireHurtAsk (l : List K) (hl : l.length ≤ 1000) (n at_ by_ : Int) (ha : 0 ≤ at_) (hb : 0 ≤ by_) (h : askE l n ≠ 0) : AF Try.prog XX 20 [.isl 4 (l.map kC), vi n, vi at_, vi by_] (.tup [.emp, vi (askE l n)]) := by
  have hA := wireAsked l n (by omega)
  refine ac_mk (by kernel_rfl) Try.func20 rfl (lb rfl) rfl rfl ?_
  generalize askE l n = e at *
  repeat (first | refine ao_e rfl rfl rfl rfl rfl ?_ | refine ao_eff (v := V.val (Value.bool true)) (ups := []) rfl rfl rfl rfl ?_ | refine ao_eff (v := V.val (Value.bool false)) (ups := []) rfl rfl rfl rfl ?_ | refine aw_seq ?_ | refine aw_region ?_ | refine aw_block ?_ | refine ao_nil ⟨fun h => (Bool.false_ne_true h).elim, ?_⟩ | refine ao_nil ⟨fun _ => ⟨by kernel_rfl, by kernel_rfl⟩, ?_⟩ | refine ao_skip rfl rfl rfl ?_ | refine aw_true rfl ?_ | refine aw_false rfl ?_ | refine aw_skip ?_ | refine aw_exit ?_)
  refine ao_no rfl rfl rfl rfl (by omega) ?_
  repeat (first | refine ao_e rfl rfl rfl rfl rfl ?_ | refine ao_eff (v := V.val (Value.bool true)) (ups := []) rfl rfl rfl rfl ?_ | refine ao_eff (v := V.val (Value.bool false)) (ups := []) rfl rfl rfl rfl ?_ | refine aw_seq ?_ | refine aw_region ?_ | refine aw_block ?_ | refine ao_nil ⟨fun h => (Bool.false_ne_true h).elim, ?_⟩ | refine ao_nil ⟨fun _ => ⟨by kernel_rfl, by kernel_rfl⟩, ?_⟩ | refine ao_skip rfl rfl rfl ?_ | refine aw_true rfl ?_ | refine aw_false rfl ?_ | refine aw_skip ?_ | refine aw_exit ?_)
  refine ao_no rfl rfl rfl rfl (by omega) ?_
  repeat (first | refine ao_e rfl rfl rfl rfl rfl ?_ | refine ao_eff (v := V.val (Value.bool true)) (ups := []) rfl rfl rfl rfl ?_ | refine ao_eff (v := V.val (Value.bool false)) (ups := []) rfl rfl rfl rfl ?_ | refine aw_seq ?_ | refine aw_region ?_ | refine aw_block ?_ | refine ao_nil ⟨fun h => (Bool.false_ne_true h).elim, ?_⟩ | refine ao_nil ⟨fun _ => ⟨by kernel_rfl, by kernel_rfl⟩, ?_⟩ | refine ao_skip rfl rfl rfl ?_ | refine aw_true rfl ?_ | refine aw_false rfl ?_ | refine aw_skip ?_ | refine aw_exit ?_)
  refine ao_fun rfl rfl rfl rfl rfl rfl hA ?_
  repeat (first | refine ao_e rfl rfl rfl rfl rfl ?_ | refine ao_eff (v := V.val (Value.bool true)) (ups := []) rfl rfl rfl rfl ?_ | refine ao_eff (v := V.val (Value.bool false)) (ups := []) rfl rfl rfl rfl ?_ | refine aw_seq ?_ | refine aw_region ?_ | refine aw_block ?_ | refine ao_nil ⟨fun h => (Bool.false_ne_true h).elim, ?_⟩ | refine ao_nil ⟨fun _ => ⟨by kernel_rfl, by kernel_rfl⟩, ?_⟩ | refine ao_skip rfl rfl rfl ?_ | refine aw_true rfl ?_ | refine aw_false rfl ?_ | refine aw_skip ?_ | refine aw_exit ?_)
  refine ao_ndec rfl rfl rfl rfl (fun hb => absurd hb h) (fun hb => ?_)
  repeat (first | refine ao_e rfl rfl rfl rfl rfl ?_ | refine ao_eff (v := V.val (Value.bool true)) (ups := []) rfl rfl rfl rfl ?_ | refine ao_eff (v := V.val (Value.bool false)) (ups := []) rfl rfl rfl rfl ?_ | refine aw_seq ?_ | refine aw_region ?_ | refine aw_block ?_ | refine ao_nil ⟨fun h => (Bool.false_ne_true h).elim, ?_⟩ | refine ao_nil ⟨fun _ => ⟨by kernel_rfl, by kernel_rfl⟩, ?_⟩ | refine ao_skip rfl rfl rfl ?_ | refine aw_true rfl ?_ | refine aw_false rfl ?_ | refine aw_skip ?_ | refine aw_exit ?_)
  exact aw_ret ⟨.inr rfl, _, _, _, _, _, rfl, rfl, rfl, rfl, rfl, rfl⟩
theorem wireHurtT (l : List K) (hm : mayK l = true) (n : Nat) (hn : n < l.length) (f0 f1 : Int) (f2 : ByteArray) (hei : (l.map kC)[Int.toNat (n : Int)]? = some (kC ⟨f0, f1, f2, true⟩)) (at_ by_ : Int) (ha : 0 ≤ at_) (hb : 0 ≤ by_) : AF Try.prog XX 20 [.isl 4 (l.map kC), vi n, vi at_, vi by_] (.tup [.emp, vi 5]) := by
  have hl : l.length ≤ 40 := by unfold mayK at hm; simp only [Bool.and_eq_true, decide_eq_true_eq] at hm; exact hm.1
  have hA := wireAsked l n (by omega)
  have e0 : askE l n = 0 := by unfold askE; rw [hm, if_pos rfl, if_neg (by omega)]
  rw [e0] at hA
  refine ac_mk (by kernel_rfl) Try.func20 rfl (lb rfl) rfl rfl ?_
  repeat (first | refine ao_e rfl rfl rfl rfl rfl ?_ | refine ao_eff (v := V.val (Value.bool true)) (ups := []) rfl rfl rfl rfl ?_ | refine ao_eff (v := V.val (Value.bool false)) (ups := []) rfl rfl rfl rfl ?_ | refine aw_seq ?_ | refine aw_region ?_ | refine aw_block ?_ | refine ao_nil ⟨fun h => (Bool.false_ne_true h).elim, ?_⟩ | refine ao_nil ⟨fun _ => ⟨by kernel_rfl, by kernel_rfl⟩, ?_⟩ | refine ao_skip rfl rfl rfl ?_ | refine aw_true rfl ?_ | refine aw_false rfl ?_ | refine aw_skip ?_ | refine aw_exit ?_)
  refine ao_no rfl rfl rfl rfl (by omega) ?_
  repeat (first | refine ao_e rfl rfl rfl rfl rfl ?_ | refine ao_eff (v := V.val (Value.bool true)) (ups := []) rfl rfl rfl rfl ?_ | refine ao_eff (v := V.val (Value.bool false)) (ups := []) rfl rfl rfl rfl ?_ | refine aw_seq ?_ | refine aw_region ?_ | refine aw_block ?_ | refine ao_nil ⟨fun h => (Bool.false_ne_true h).elim, ?_⟩ | refine ao_nil ⟨fun _ => ⟨by kernel_rfl, by kernel_rfl⟩, ?_⟩ | refine ao_skip rfl rfl rfl ?_ | refine aw_true rfl ?_ | refine aw_false rfl ?_ | refine aw_skip ?_ | refine aw_exit ?_)
  refine ao_no rfl rfl rfl rfl (by omega) ?_
  repeat (first | refine ao_e rfl rfl rfl rfl rfl ?_ | refine ao_eff (v := V.val (Value.bool true)) (ups := []) rfl rfl rfl rfl ?_ | refine ao_eff (v := V.val (Value.bool false)) (ups := []) rfl rfl rfl rfl ?_ | refine aw_seq ?_ | refine aw_region ?_ | refine aw_block ?_ | refine ao_nil ⟨fun h => (Bool.false_ne_true h).elim, ?_⟩ | refine ao_nil ⟨fun _ => ⟨by kernel_rfl, by kernel_rfl⟩, ?_⟩ | refine ao_skip rfl rfl rfl ?_ | refine aw_true rfl ?_ | refine aw_false rfl ?_ | refine aw_skip ?_ | refine aw_exit ?_)
  refine ao_fun rfl rfl rfl rfl rfl rfl hA ?_
  repeat (first | refine ao_e rfl rfl rfl rfl rfl ?_ | refine ao_eff (v := V.val (Value.bool true)) (ups := []) rfl rfl rfl rfl ?_ | refine ao_eff (v := V.val (Value.bool false)) (ups := []) rfl rfl rfl rfl ?_ | refine aw_seq ?_ | refine aw_region ?_ | refine aw_block ?_ | refine ao_nil ⟨fun h => (Bool.false_ne_true h).elim, ?_⟩ | refine ao_nil ⟨fun _ => ⟨by kernel_rfl, by kernel_rfl⟩, ?_⟩ | refine ao_skip rfl rfl rfl ?_ | refine aw_true rfl ?_ | refine aw_false rfl ?_ | refine aw_skip ?_ | refine aw_exit ?_)
  refine ao_e rfl rfl rfl rfl (ef_ix rfl rfl (by omega) hei) ?_
  repeat (first | refine ao_e rfl rfl rfl rfl rfl ?_ | refine ao_eff (v := V.val (Value.bool true)) (ups := []) rfl rfl rfl rfl ?_ | refine ao_eff (v := V.val (Value.bool false)) (ups := []) rfl rfl rfl rfl ?_ | refine aw_seq ?_ | refine aw_region ?_ | refine aw_block ?_ | refine ao_nil ⟨fun h => (Bool.false_ne_true h).elim, ?_⟩ | refine ao_nil ⟨fun _ => ⟨by kernel_rfl, by kernel_rfl⟩, ?_⟩ | refine ao_skip rfl rfl rfl ?_ | refine aw_true rfl ?_ | refine aw_false rfl ?_ | refine aw_skip ?_ | refine aw_exit ?_)
  exact aw_ret ⟨.inr rfl, _, _, _, _, _, rfl, rfl, rfl, rfl, rfl, rfl⟩
theorem wireHurtE (l : List K) (hm : mayK l = true) (n : Nat) (hn : n < l.length) (f0 f1 : Int) (hei : (l.map kC)[Int.toNat (n : Int)]? = some (kC ⟨f0, f1, ⟨#[]⟩, false⟩)) (at_ by_ : Int) (ha : 0 ≤ at_) (hb : 0 ≤ by_) : AF Try.prog XX 20 [.isl 4 (l.map kC), vi n, vi at_, vi by_] (.tup [.emp, vi 5]) := by
  have hl : l.length ≤ 40 := by unfold mayK at hm; simp only [Bool.and_eq_true, decide_eq_true_eq] at hm; exact hm.1
  have hA := wireAsked l n (by omega)
  have e0 : askE l n = 0 := by unfold askE; rw [hm, if_pos rfl, if_neg (by omega)]
  rw [e0] at hA
  refine ac_mk (by kernel_rfl) Try.func20 rfl (lb rfl) rfl rfl ?_
  repeat (first | refine ao_e rfl rfl rfl rfl rfl ?_ | refine ao_eff (v := V.val (Value.bool true)) (ups := []) rfl rfl rfl rfl ?_ | refine ao_eff (v := V.val (Value.bool false)) (ups := []) rfl rfl rfl rfl ?_ | refine aw_seq ?_ | refine aw_region ?_ | refine aw_block ?_ | refine ao_nil ⟨fun h => (Bool.false_ne_true h).elim, ?_⟩ | refine ao_nil ⟨fun _ => ⟨by kernel_rfl, by kernel_rfl⟩, ?_⟩ | refine ao_skip rfl rfl rfl ?_ | refine aw_true rfl ?_ | refine aw_false rfl ?_ | refine aw_skip ?_ | refine aw_exit ?_)
  refine ao_no rfl rfl rfl rfl (by omega) ?_
  repeat (first | refine ao_e rfl rfl rfl rfl rfl ?_ | refine ao_eff (v := V.val (Value.bool true)) (ups := []) rfl rfl rfl rfl ?_ | refine ao_eff (v := V.val (Value.bool false)) (ups := []) rfl rfl rfl rfl ?_ | refine aw_seq ?_ | refine aw_region ?_ | refine aw_block ?_ | refine ao_nil ⟨fun h => (Bool.false_ne_true h).elim, ?_⟩ | refine ao_nil ⟨fun _ => ⟨by kernel_rfl, by kernel_rfl⟩, ?_⟩ | refine ao_skip rfl rfl rfl ?_ | refine aw_true rfl ?_ | refine aw_false rfl ?_ | refine aw_skip ?_ | refine aw_exit ?_)
  refine ao_no rfl rfl rfl rfl (by omega) ?_
  repeat (first | refine ao_e rfl rfl rfl rfl rfl ?_ | refine ao_eff (v := V.val (Value.bool true)) (ups := []) rfl rfl rfl rfl ?_ | refine ao_eff (v := V.val (Value.bool false)) (ups := []) rfl rfl rfl rfl ?_ | refine aw_seq ?_ | refine aw_region ?_ | refine aw_block ?_ | refine ao_nil ⟨fun h => (Bool.false_ne_true h).elim, ?_⟩ | refine ao_nil ⟨fun _ => ⟨by kernel_rfl, by kernel_rfl⟩, ?_⟩ | refine ao_skip rfl rfl rfl ?_ | refine aw_true rfl ?_ | refine aw_false rfl ?_ | refine aw_skip ?_ | refine aw_exit ?_)
  refine ao_fun rfl rfl rfl rfl rfl rfl hA ?_
  repeat (first | refine ao_e rfl rfl rfl rfl rfl ?_ | refine ao_eff (v := V.val (Value.bool true)) (ups := []) rfl rfl rfl rfl ?_ | refine ao_eff (v := V.val (Value.bool false)) (ups := []) rfl rfl rfl rfl ?_ | refine aw_seq ?_ | refine aw_region ?_ | refine aw_block ?_ | refine ao_nil ⟨fun h => (Bool.false_ne_true h).elim, ?_⟩ | refine ao_nil ⟨fun _ => ⟨by kernel_rfl, by kernel_rfl⟩, ?_⟩ | refine ao_skip rfl rfl rfl ?_ | refine aw_true rfl ?_ | refine aw_false rfl ?_ | refine aw_skip ?_ | refine aw_exit ?_)
  refine ao_e rfl rfl rfl rfl (ef_ix rfl rfl (by omega) hei) ?_
  repeat (first | refine ao_e rfl rfl rfl rfl rfl ?_ | refine ao_eff (v := V.val (Value.bool true)) (ups := []) rfl rfl rfl rfl ?_ | refine ao_eff (v := V.val (Value.bool false)) (ups := []) rfl rfl rfl rfl ?_ | refine aw_seq ?_ | refine aw_region ?_ | refine aw_block ?_ | refine ao_nil ⟨fun h => (Bool.false_ne_true h).elim, ?_⟩ | refine ao_nil ⟨fun _ => ⟨by kernel_rfl, by kernel_rfl⟩, ?_⟩ | refine ao_skip rfl rfl rfl ?_ | refine aw_true rfl ?_ | refine aw_false rfl ?_ | refine aw_skip ?_ | refine aw_exit ?_)
  refine ao_str rfl rfl rfl rfl (fun hb => ?_) (fun hb => absurd rfl hb)
  repeat (first | refine ao_e rfl rfl rfl rfl rfl ?_ | refine ao_eff (v := V.val (Value.bool true)) (ups := []) rfl rfl rfl rfl ?_ | refine ao_eff (v := V.val (Value.bool false)) (ups := []) rfl rfl rfl rfl ?_ | refine aw_seq ?_ | refine aw_region ?_ | refine aw_block ?_ | refine ao_nil ⟨fun h => (Bool.false_ne_true h).elim, ?_⟩ | refine ao_nil ⟨fun _ => ⟨by kernel_rfl, by kernel_rfl⟩, ?_⟩ | refine ao_skip rfl rfl rfl ?_ | refine aw_true rfl ?_ | refine aw_false rfl ?_ | refine aw_skip ?_ | refine aw_exit ?_)
  exact aw_ret ⟨.inr rfl, _, _, _, _, _, rfl, rfl, rfl, rfl, rfl, rfl⟩
theorem wireHurtK (l : List K) (hm : mayK l = true) (n : Nat) (hn : n < l.length) (f0 f1 : Int) (L : List Int) (hB : Bytes L) (a : Nat) (z q y : Int) (hat : a < L.length) (hz : L[a]? = some z) (hei : (l.map kC)[Int.toNat (n : Int)]? = some (kC ⟨f0, f1, strOfNums L, false⟩)) (at_ by_ : Int) (ha : 0 ≤ at_) (hb : 0 ≤ by_)
    (e1 : Int.tmod at_ ((L.length : Nat) : Int) = (a : Nat)) (e2 : IntKind.i64.wrap (1 + Int.tmod by_ 255) = q) (e3 : IntKind.u8.wrap (z + IntKind.u8.wrap q) = y) (r : List K) (hr : l.set n ⟨f0, f1, strOfNums (L.set a y), true⟩ = r) :
    AF Try.prog XX 20 [.isl 4 (l.map kC), vi n, vi at_, vi by_] (.tup [.isl 4 (r.map kC), vi 0]) := by
  have hl : l.length ≤ 40 := by unfold mayK at hm; simp only [Bool.and_eq_true, decide_eq_true_eq] at hm; exact hm.1
  have hA := wireAsked l n (by omega)
  have e0 : askE l n = 0 := by unfold askE; rw [hm, if_pos rfl, if_neg (by omega)]
  rw [e0] at hA
  have hC := cloneOut (X := XX) l (by intro h; subst h; simp at hn) (by omega)
  have hls := strOfNums_size L
  have hne : strOfNums L ≠ ⟨#[]⟩ := by
    intro h
    have := congrArg ByteArray.size h
    rw [hls] at this
    have e : (⟨#[]⟩ : ByteArray).size = 0 := rfl
    omega
  have hcl : (L.map u8).length = L.length := List.length_map ..
  have hll : (L.set a y).length = L.length := List.length_set
  have hrl : r.length = l.length := by rw [← hr]; exact List.length_set
  refine ac_mk (by kernel_rfl) Try.func20 rfl (lb rfl) rfl rfl ?_
  repeat (first | refine ao_e rfl rfl rfl rfl rfl ?_ | refine ao_eff (v := V.val (Value.bool true)) (ups := []) rfl rfl rfl rfl ?_ | refine ao_eff (v := V.val (Value.bool false)) (ups := []) rfl rfl rfl rfl ?_ | refine aw_seq ?_ | refine aw_region ?_ | refine aw_block ?_ | refine ao_nil ⟨fun h => (Bool.false_ne_true h).elim, ?_⟩ | refine ao_nil ⟨fun _ => ⟨by kernel_rfl, by kernel_rfl⟩, ?_⟩ | refine ao_skip rfl rfl rfl ?_ | refine aw_true rfl ?_ | refine aw_false rfl ?_ | refine aw_skip ?_ | refine aw_exit ?_)
  refine ao_no rfl rfl rfl rfl (by omega) ?_
  repeat (first | refine ao_e rfl rfl rfl rfl rfl ?_ | refine ao_eff (v := V.val (Value.bool true)) (ups := []) rfl rfl rfl rfl ?_ | refine ao_eff (v := V.val (Value.bool false)) (ups := []) rfl rfl rfl rfl ?_ | refine aw_seq ?_ | refine aw_region ?_ | refine aw_block ?_ | refine ao_nil ⟨fun h => (Bool.false_ne_true h).elim, ?_⟩ | refine ao_nil ⟨fun _ => ⟨by kernel_rfl, by kernel_rfl⟩, ?_⟩ | refine ao_skip rfl rfl rfl ?_ | refine aw_true rfl ?_ | refine aw_false rfl ?_ | refine aw_skip ?_ | refine aw_exit ?_)
  refine ao_no rfl rfl rfl rfl (by omega) ?_
  repeat (first | refine ao_e rfl rfl rfl rfl rfl ?_ | refine ao_eff (v := V.val (Value.bool true)) (ups := []) rfl rfl rfl rfl ?_ | refine ao_eff (v := V.val (Value.bool false)) (ups := []) rfl rfl rfl rfl ?_ | refine aw_seq ?_ | refine aw_region ?_ | refine aw_block ?_ | refine ao_nil ⟨fun h => (Bool.false_ne_true h).elim, ?_⟩ | refine ao_nil ⟨fun _ => ⟨by kernel_rfl, by kernel_rfl⟩, ?_⟩ | refine ao_skip rfl rfl rfl ?_ | refine aw_true rfl ?_ | refine aw_false rfl ?_ | refine aw_skip ?_ | refine aw_exit ?_)
  refine ao_fun rfl rfl rfl rfl rfl rfl hA ?_
  repeat (first | refine ao_e rfl rfl rfl rfl rfl ?_ | refine ao_eff (v := V.val (Value.bool true)) (ups := []) rfl rfl rfl rfl ?_ | refine ao_eff (v := V.val (Value.bool false)) (ups := []) rfl rfl rfl rfl ?_ | refine aw_seq ?_ | refine aw_region ?_ | refine aw_block ?_ | refine ao_nil ⟨fun h => (Bool.false_ne_true h).elim, ?_⟩ | refine ao_nil ⟨fun _ => ⟨by kernel_rfl, by kernel_rfl⟩, ?_⟩ | refine ao_skip rfl rfl rfl ?_ | refine aw_true rfl ?_ | refine aw_false rfl ?_ | refine aw_skip ?_ | refine aw_exit ?_)
  refine ao_e rfl rfl rfl rfl (ef_ix rfl rfl (by omega) hei) ?_
  repeat (first | refine ao_e rfl rfl rfl rfl rfl ?_ | refine ao_eff (v := V.val (Value.bool true)) (ups := []) rfl rfl rfl rfl ?_ | refine ao_eff (v := V.val (Value.bool false)) (ups := []) rfl rfl rfl rfl ?_ | refine aw_seq ?_ | refine aw_region ?_ | refine aw_block ?_ | refine ao_nil ⟨fun h => (Bool.false_ne_true h).elim, ?_⟩ | refine ao_nil ⟨fun _ => ⟨by kernel_rfl, by kernel_rfl⟩, ?_⟩ | refine ao_skip rfl rfl rfl ?_ | refine aw_true rfl ?_ | refine aw_false rfl ?_ | refine aw_skip ?_ | refine aw_exit ?_)
  refine ao_str rfl rfl rfl rfl (fun hb => absurd hb hne) (fun hb => ?_)
  repeat (first | refine ao_e rfl rfl rfl rfl (ef_bytes L hB rfl rfl rfl rfl) ?_ | refine ao_e rfl rfl rfl rfl rfl ?_ | refine ao_eff (v := V.val (Value.bool true)) (ups := []) rfl rfl rfl rfl ?_ | refine ao_eff (v := V.val (Value.bool false)) (ups := []) rfl rfl rfl rfl ?_ | refine aw_seq ?_ | refine aw_region ?_ | refine aw_block ?_ | refine ao_nil ⟨fun h => (Bool.false_ne_true h).elim, ?_⟩ | refine ao_nil ⟨fun _ => ⟨by kernel_rfl, by kernel_rfl⟩, ?_⟩ | refine ao_skip rfl rfl rfl ?_ | refine aw_true rfl ?_ | refine aw_false rfl ?_ | refine aw_skip ?_ | refine aw_exit ?_)
  refine ao_is (a : Nat) rfl rfl rfl (ef_rem (by omega)) e1 ?_
  refine ao_e rfl rfl rfl rfl (ef_ixn a rfl rfl rfl rfl hat (by rw [List.length_map]; exact Nat.le_refl _)) ?_
  refine ao_e rfl rfl rfl rfl (ef_ld8 rfl rfl hz rfl rfl) ?_
  iterate 2 refine ao_e rfl rfl rfl rfl rfl ?_
  refine ao_as (vi q) rfl rfl rfl ef_add (congrArg vi e2) ?_
  iterate 1 refine ao_e rfl rfl rfl rfl rfl ?_
  refine ao_as (V.val (.int .u8 y)) rfl rfl rfl ef_add (congrArg (fun x => V.val (Value.int .u8 x)) e3) ?_
  refine ao_e rfl rfl rfl rfl (ef_ixn a rfl rfl rfl rfl hat (by rw [List.length_map]; exact Nat.le_refl _)) ?_
  refine ao_e rfl rfl rfl rfl (ef_st8 rfl hz rfl rfl) ?_
  repeat (first | refine ao_e rfl rfl rfl rfl rfl ?_ | refine ao_eff (v := V.val (Value.bool true)) (ups := []) rfl rfl rfl rfl ?_ | refine ao_eff (v := V.val (Value.bool false)) (ups := []) rfl rfl rfl rfl ?_ | refine aw_seq ?_ | refine aw_region ?_ | refine aw_block ?_ | refine ao_nil ⟨fun h => (Bool.false_ne_true h).elim, ?_⟩ | refine ao_nil ⟨fun _ => ⟨by kernel_rfl, by kernel_rfl⟩, ?_⟩ | refine ao_skip rfl rfl rfl ?_ | refine aw_true rfl ?_ | refine aw_false rfl ?_ | refine aw_skip ?_ | refine aw_exit ?_)
  refine ao_e rfl rfl rfl rfl (ef_str8 (L.set a y) rfl rfl rfl hll.symm rfl rfl rfl) ?_
  repeat (first | refine ao_e rfl rfl rfl rfl rfl ?_ | refine ao_eff (v := V.val (Value.bool true)) (ups := []) rfl rfl rfl rfl ?_ | refine ao_eff (v := V.val (Value.bool false)) (ups := []) rfl rfl rfl rfl ?_ | refine aw_seq ?_ | refine aw_region ?_ | refine aw_block ?_ | refine ao_nil ⟨fun h => (Bool.false_ne_true h).elim, ?_⟩ | refine ao_nil ⟨fun _ => ⟨by kernel_rfl, by kernel_rfl⟩, ?_⟩ | refine ao_skip rfl rfl rfl ?_ | refine aw_true rfl ?_ | refine aw_false rfl ?_ | refine aw_skip ?_ | refine aw_exit ?_)
  refine ao_out rfl rfl rfl rfl rfl rfl hC ?_
  repeat (first | refine ao_e rfl rfl rfl rfl rfl ?_ | refine ao_eff (v := V.val (Value.bool true)) (ups := []) rfl rfl rfl rfl ?_ | refine ao_eff (v := V.val (Value.bool false)) (ups := []) rfl rfl rfl rfl ?_ | refine aw_seq ?_ | refine aw_region ?_ | refine aw_block ?_ | refine ao_nil ⟨fun h => (Bool.false_ne_true h).elim, ?_⟩ | refine ao_nil ⟨fun _ => ⟨by kernel_rfl, by kernel_rfl⟩, ?_⟩ | refine ao_skip rfl rfl rfl ?_ | refine aw_true rfl ?_ | refine aw_false rfl ?_ | refine aw_skip ?_ | refine aw_exit ?_)
  refine ao_e rfl rfl rfl rfl (ef_ixn n rfl rfl rfl rfl hn (by rw [List.length_map]; exact Nat.le_refl _)) ?_
  refine ao_e rfl rfl rfl rfl (ef_strow kC l ⟨f0, f1, strOfNums (L.set a y), true⟩ rfl hn rfl (fun _ _ => rfl) rfl) ?_
  repeat (first | refine ao_e rfl rfl rfl rfl rfl ?_ | refine ao_eff (v := V.val (Value.bool true)) (ups := []) rfl rfl rfl rfl ?_ | refine ao_eff (v := V.val (Value.bool false)) (ups := []) rfl rfl rfl rfl ?_ | refine aw_seq ?_ | refine aw_region ?_ | refine aw_block ?_ | refine ao_nil ⟨fun h => (Bool.false_ne_true h).elim, ?_⟩ | refine ao_nil ⟨fun _ => ⟨by kernel_rfl, by kernel_rfl⟩, ?_⟩ | refine ao_skip rfl rfl rfl ?_ | refine aw_true rfl ?_ | refine aw_false rfl ?_ | refine aw_skip ?_ | refine aw_exit ?_)
  subst hr
  refine aw_canon [.any, .any, .any, .any, .any, .any, .any, .any, .isl 4 ((l.set n ⟨f0, f1, strOfNums (L.set a y), true⟩).map kC), vi 0] [] ⟨.any _, .any _, .any _, .any _, .any _, .any _, .any _, .any _, ren_frz kC (l.set n ⟨f0, f1, strOfNums (L.set a y), true⟩) rfl rfl rfl hrl.symm rfl rfl, .same _ rfl, trivial⟩ trivial (fun h0 => ?_)
  exact aw_ret ⟨.inr rfl, _, _, _, _, _, rfl, rfl, rfl, rfl, rfl, rfl⟩
theorem wireHurt (l : List K) (hm : mayK l = true) (n : Nat) (hn : n < l.length) (at_ by_ : Int) (ha : 0 ≤ at_) (hb : 0 ≤ by_) : AF Try.prog XX 20 [.isl 4 (l.map kC), vi n, vi at_, vi by_] (hurtX l n l[n] at_ by_) := by
  have hei : (l.map kC)[Int.toNat (n : Int)]? = some (kC l[n]) := by rw [Int.toNat_natCast, List.getElem?_map, List.getElem?_eq_getElem hn]; rfl
  generalize l[n] = k at *
  obtain ⟨f0, f1, f2, f3⟩ := k
  unfold hurtX
  by_cases h : f3 = true ∨ f2.size = 0
  · rw [if_pos h]
    by_cases h3 : f3 = true
    · subst h3
      exact wireHurtT l hm n hn f0 f1 f2 hei at_ by_ ha hb
    · have e3 : f3 = false := by simpa using h3
      have e2 : f2 = ⟨#[]⟩ := empty_eq (h.resolve_left h3)
      subst e3 e2
      exact wireHurtE l hm n hn f0 f1 hei at_ by_ ha hb
  · rw [if_neg h]
    have h3 : f3 = false := by
      cases f3 with
      | false => rfl
      | true => exact absurd (.inl rfl) h
    subst h3
    have hB := bytesOf_bytes f2
    have hfe : strOfNums (bytesOf f2) = f2 := str_bytesOf f2
    have hpos : 0 < (bytesOf f2).length := by
      rw [bytesOf_length]
      have : f2.size ≠ 0 := fun e => h (.inr e)
      omega
    have hat : at_.toNat % (bytesOf f2).length < (bytesOf f2).length := Nat.mod_lt _ hpos
    have hz : (bytesOf f2)[at_.toNat % (bytesOf f2).length]? = some ((bytesOf f2).getD (at_.toNat % (bytesOf f2).length) 0) := by rw [List.getD_eq_getElem?_getD, List.getElem?_eq_getElem hat]; rfl
    have hzb := hB _ (List.mem_of_getElem? hz)
    refine wireHurtK l hm n hn f0 f1 (bytesOf f2) hB (at_.toNat % (bytesOf f2).length) _ (1 + by_ % 255) (((bytesOf f2).getD (at_.toNat % (bytesOf f2).length) 0 + (1 + by_ % 255)) % 256) hat hz (by rw [hfe]; exact hei) at_ by_ ha hb ?_ ?_ ?_ _ rfl
    · rw [Int.tmod_eq_emod_of_nonneg ha, Int.natCast_emod, Int.toNat_of_nonneg ha]
    · rw [Int.tmod_eq_emod_of_nonneg hb, wr64, w64 (by omega) (by omega)]
    · rw [wr8, wr8]
      omega
end Go.Ai
