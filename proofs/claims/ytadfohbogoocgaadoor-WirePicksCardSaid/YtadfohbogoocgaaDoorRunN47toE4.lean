/- slices.Delete of one packet, as the machine does it. -/
import Derived.Test.YtadfohbogoocgaaDoorN44
import Derived.Test.YtadfohbogoocgaaDoorCoreAiWbtoAiWc
import Derived.Test.YtadfohbogoocgaaDoorCoreAiHtoAiSk
import Derived.Test.YtadfohbogoocgaaDoorProg
import Derived.KernelRfl
import Derived.ProofKit
import Derived.WalkKit
import Derived.Deep.RegionLaw
import Derived.Lib.SliceRun
import Derived.Deep.MidRow
import Derived.Below
import Derived.Test.YtadfohbogoocgaaDoorCoreAiAtoAiF
set_option linter.unusedVariables false
set_option linter.unusedSimpArgs false
namespace Go.Ai
open Go Go.RowKit Go.Proofs Go.Sp
variable {X : FuncId → List V → List (Nat × List V) → V → List (Nat × List V) → List Blk → Prop}
set_option maxRecDepth 10000
set_option maxHeartbeats 4000000
set_option linter.unusedVariables false
set_option linter.unusedSimpArgs false
theorem cloneOut (l : List K) (hne : l ≠ []) (hl : l.length ≤ 1000000000000) : AC Tryd.prog X 76 [.isl 4 (l.map kC)] [] (.sl 0 0 0 l.length) [] [⟨0, 4, true, true, l.map kC⟩] := by
  obtain ⟨x, r, rfl⟩ : ∃ x r, l = x :: r := by
    cases l with
    | nil => exact absurd rfl hne
    | cons x r => exact ⟨x, r, rfl⟩
  have hlm : ((x :: r).map kC).length = (x :: r).length := List.length_map ..
  refine ac_mk (by kernel_rfl) Tryd.func76 rfl (lb rfl) rfl rfl ?_
  repeat (first | refine ao_e rfl rfl rfl rfl rfl ?_ | refine ao_eff (v := V.val (Value.bool true)) (ups := []) rfl rfl rfl rfl ?_ | refine ao_eff (v := V.val (Value.bool false)) (ups := []) rfl rfl rfl rfl ?_ | refine aw_seq ?_ | refine aw_region ?_ | refine aw_block ?_ | refine ao_nil ⟨fun h => (Bool.false_ne_true h).elim, ?_⟩ | refine ao_nil ⟨fun _ => ⟨by kernel_rfl, by kernel_rfl⟩, ?_⟩ | refine ao_skip rfl rfl rfl ?_ | refine aw_true rfl ?_ | refine aw_false rfl ?_ | refine aw_skip ?_ | refine aw_exit ?_)
  refine ao_e rfl rfl rfl rfl (ef_append (xs := (x :: r).map kC) (es' := (x :: r).map kC) (len' := (x :: r).length) (by_ := 40) rfl rfl rfl rfl rfl rfl rfl (Nat.zero_le _) (by omega) (List.nil_append _) (by omega)) ?_
  repeat (first | refine ao_e rfl rfl rfl rfl rfl ?_ | refine ao_eff (v := V.val (Value.bool true)) (ups := []) rfl rfl rfl rfl ?_ | refine ao_eff (v := V.val (Value.bool false)) (ups := []) rfl rfl rfl rfl ?_ | refine aw_seq ?_ | refine aw_region ?_ | refine aw_block ?_ | refine ao_nil ⟨fun h => (Bool.false_ne_true h).elim, ?_⟩ | refine ao_nil ⟨fun _ => ⟨by kernel_rfl, by kernel_rfl⟩, ?_⟩ | refine ao_skip rfl rfl rfl ?_ | refine aw_true rfl ?_ | refine aw_false rfl ?_ | refine aw_skip ?_ | refine aw_exit ?_)
  exact aw_ret (ret_outs (fn := Tryd.f76) rfl rfl rfl (Nat.le_of_eq hlm.symm) rfl)
/-- a store of a whole element of a row -/
theorem ef_strow {P : Program} {h : Nat → Option Blk} {site : Nat} {α : Type} (enc : α → List V) (l : List α) (a : α) {T : TypeId} {x y : Operand} {b ver i sz : Nat} {w c : Bool} (hk : live h b ver = some ⟨ver, sz, w, c, l.map enc⟩) (hi : i < l.length) (hs : sizeT P T = some sz)
    (hl : ∀ u ∈ a :: l, (enc u).length = sz) (hc : (w && (enc a).all cellOk && (enc a).all clo0) = true) :
    eff P site (.store T x y) [.ptr b ver i 0, .agg (enc a)] h = some (.any, [(b, ⟨ver, sz, w, c && true, (l.set i a).map enc⟩)]) := by
  simp only [Bool.and_eq_true] at hc
  obtain ⟨⟨c1, c2⟩, c3⟩ := hc
  have hg : (l.map enc)[i]? = some (enc l[i]) := by rw [List.getElem?_map, List.getElem?_eq_getElem hi]; rfl
  have h1 : (enc a).length = sz := hl a (by simp)
  have h2 : (enc l[i]).length = sz := hl _ (List.mem_cons_of_mem _ (List.getElem_mem hi))
  show effStore P T (.ptr b ver i 0) (.agg (enc a)) h = _
  simp only [effStore, hk, hs, hg]
  rw [if_pos ⟨c1, h1, by omega, c2⟩]
  show some (V.any, [(b, ({ ver := ver, sz := sz, wr := w, cl := c && (enc a).all clo0, es := (l.map enc).set i (splice (enc l[i]) 0 (enc a)) } : Blk))]) = _
  have e : splice (enc l[i]) 0 (enc a) = enc a := by
    unfold splice
    rw [List.take_zero, List.nil_append, List.drop_of_length_le (by omega), List.append_nil]
  rw [e, c3, List.map_set]
def hurtX (l : List K) (n : Nat) (k : K) (at_ by_ : Int) : V := if k.f3 = true ∨ k.f2.size = 0 then .tup [.emp, vi 5] else .tup [.isl 4 ((l.set n (hurtK k at_ by_)).map kC), vi 0]
end Go.Ai

namespace Go.Ai
open Go Go.RowKit Go.Proofs Go.Sp
set_option maxRecDepth 100000
set_option maxHeartbeats 4000000
set_option linter.unusedVariables false
set_option linter.unusedSimpArgs false
/-- A packet's cells. -/
def kZ (k : K) : List Value := [.int .i64 k.f0, .int .i64 k.f1, .string k.f2, .bool k.f3]
def ksZ (l : List K) : List Value := l.flatMap kZ
theorem ksZ_len (l : List K) : (ksZ l).length = 4 * l.length := by
  induction l with
  | nil => rfl
  | cons k l ih => simp only [ksZ, List.flatMap_cons, List.length_append, List.length_cons] at ih ⊢; simp only [ih, kZ, List.length_cons, List.length_nil]; omega
theorem ksZ_append (a b : List K) : ksZ (a ++ b) = ksZ a ++ ksZ b := by simp [ksZ]
theorem ksZ_one (l : List K) : ∀ u ∈ ksZ l, u.oneCell' = true := by
  intro u hu
  obtain ⟨k, _, hk⟩ := List.mem_flatMap.1 hu
  simp only [kZ, List.mem_cons, List.not_mem_nil, or_false] at hk
  rcases hk with rfl | rfl | rfl | rfl <;> rfl
theorem deleteCalls (g cap n : Nat) (l : List K) (w : World) (hn : n < l.length) (hcap : l.length ≤ cap)
    (hH : ∀ t v, (ksZ l)[t]? = some v → w.cell? ⟨g, t, none⟩ = some v) (hF : ∀ t, t < 4 * l.length → w.frozen? ⟨g, t, none⟩ = false) :
    Calls Tryd.prog 75 #[.slice (some ⟨g, 0, none⟩) l.length cap, .int .i64 n, .int .i64 (n + 1 : Nat)] w fun e w' =>
      e = .returned (.slice (some ⟨g, 0, none⟩) (l.length - 1) cap) ∧ ∃ vs, w' = (w.drew.setCells g (n * 4) (ksZ (l.drop (n + 1)))).setCells g (4 * (l.length - 1)) vs ∧ vs.length = 4 := by
  have hlen := ksZ_len l
  obtain ⟨news, hnews⟩ : ∃ news, news = ksZ (l.drop (n + 1)) := ⟨_, rfl⟩
  have hnl : news.length = (l.length - (n + 1)) * 4 := by rw [hnews, ksZ_len, List.length_drop]; omega
  have hsplit : ksZ l = ksZ (l.take (n + 1)) ++ news := by rw [hnews, ← ksZ_append, List.take_append_drop]
  have htl : (ksZ (l.take (n + 1))).length = 4 * (n + 1) := by rw [ksZ_len, List.length_take]; omega
  have hget : ∀ t u, news[t]? = some u → w.cell? ⟨g, 4 * (n + 1) + t, none⟩ = some u := by
    intro t u hu
    refine hH _ _ ?_
    rw [hsplit, List.getElem?_append_right (by omega), htl]
    rw [show 4 * (n + 1) + t - 4 * (n + 1) = t by omega]; exact hu
  have hsome : ∀ t, t < 4 * l.length → (w.cell? ⟨g, t, none⟩).isSome = true := by
    intro t ht
    rw [hH t _ (List.getElem?_eq_getElem (by rw [hlen]; exact ht))]; rfl
  obtain ⟨A, hA, hsrc⟩ : ∃ A : Addr, (if cap = n + 1 then some (⟨g, 0, none⟩ : Addr) else some ⟨g, (n + 1) * 4, none⟩) = some A ∧ Hid (∀ t u, news[t]? = some u → w.drew.cell? (A.add t) = some u) := by
    by_cases h : cap = n + 1
    · refine ⟨⟨g, 0, none⟩, by simp [h], fun t u hu => ?_⟩
      have h0 : news.length = 0 := by rw [hnl]; omega
      rw [List.length_eq_zero_iff.1 h0] at hu
      simp at hu
    · refine ⟨⟨g, (n + 1) * 4, none⟩, by simp [h], fun t u hu => ?_⟩
      have := hget t u hu
      rw [cell_add, show (n + 1) * 4 + t = 4 * (n + 1) + t by omega]
      exact this
  have s1 : Hid (news.length = (l.length - (n + 1)) * 4) := hnl
  have s2 : Hid (∀ u ∈ news, u.oneCell' = true) := by rw [hnews]; exact ksZ_one _
  have s3 : Hid (∀ t, t < news.length → (w.drew.cell? ⟨g, 0 + n * 4 + t, none⟩).isSome = true ∧ w.drew.frozen? ⟨g, 0 + n * 4 + t, none⟩ = false) := by
    intro t ht
    rw [hnl] at ht
    exact ⟨hsome _ (by omega), hF _ (by omega)⟩
  obtain ⟨W1, hW1⟩ : ∃ W1, W1 = w.drew.setCells g (0 + n * 4) news := ⟨_, rfl⟩
  have c1 : ∀ t, t < 4 → (W1.cell? ⟨g, (l.length - 1) * 4 + t, none⟩).isSome = true := by
    intro t ht
    rw [hW1]
    exact World.isSome_setCells g news _ _ _ (hsome _ (by omega))
  have c2 : ∀ t, t < 4 → W1.frozen? ⟨g, (l.length - 1) * 4 + t, none⟩ = false := by
    intro t ht
    rw [hW1, World.frozen?_setCells]
    exact hF _ (by omega)
  have hz : ∀ w, (zeroValue 74).run Tryd.prog w = .ok (.agg #[.int .i64 0, .int .i64 0, .string ⟨#[]⟩, .bool false]) w := Tryd.zeroValue74
  have hcl : ∀ ty, (Builtin.clear_ #[71] ty #[.slice (some ⟨g, (n + (l.length - (n + 1))) * 4, none⟩) (l.length - (n + (l.length - (n + 1)))) (cap - (n + (l.length - (n + 1))))]).run Tryd.prog W1 = .ok (.tuple #[]) (W1.setCells g ((l.length - 1) * 4) [.int .i64 0, .int .i64 0, .string ⟨#[]⟩, .bool false]) := by
    intro ty
    rw [show n + (l.length - (n + 1)) = l.length - 1 by omega, show l.length - (l.length - 1) = 1 by omega]
    have hst := run_storeCells_cells (P := Tryd.prog) g ((l.length - 1) * 4) [.int .i64 0, .int .i64 0, .string ⟨#[]⟩, .bool false] 0 W1 (by simpa using c1) (by simpa using c2) (by decide)
    simp only [Nat.add_zero] at hst
    have hzc : (Builtin.zeroCells (Value.agg #[.int .i64 0, .int .i64 0, .string ⟨#[]⟩, .bool false]).cells 1).toList = [.int .i64 0, .int .i64 0, .string ⟨#[]⟩, .bool false] := by simp [Builtin.zeroCells, Value.cells, List.range_succ]
    simp [Builtin.clear_, run_underlying Tryd.underlying71, hz, hzc, hst]
  have hW : Hid (W1 = w.drew.setCells g (0 + n * 4) news) := hW1
  have hN : Hid (news = ksZ (l.drop (n + 1))) := hnews
  have hu := Tryd.underlying71
  have hic : n ≤ cap := by omega
  have hjc : n + 1 ≤ cap := by omega
  have hb1 : 0 ≤ (n : Int) + 1 := by omega
  have hb2 : (n : Int) + 1 ≤ (l.length : Int) := by omega
  have mixed : Tryd.prog.follows .mixedOrders = true := by kernel_rfl
  obtain ⟨i0, hi0, hz0⟩ : ∃ i, Tryd.prog.info? 74 = some i ∧ i.size = 4 := ⟨_, rfl, rfl⟩
  clear hW1 hget hsplit htl hnl hsome hF hH hlen hnews c1 c2
  go_enter Tryd.func75, Tryd.ntmps75
  go_wp2_with fail
  go_region_law_o (refine step_append_room rfl (.tmp 22) (.tmp 25) 71 rfl 74 i0 4 hu hi0 hz0 g 0 n cap (by simp [Act.eval, Act.put]) A (l.length - (n + 1)) (cap - (n + 1)) news (by simp [Act.eval, Act.put]) s1.out hsrc.out s2.out (by omega) s3.out ?_; rw [← hW.out])
  go_wp2
  go_ret
  refine ⟨by rw [show l.length - 1 = n + (l.length - (n + 1)) by omega]; rfl, [.int .i64 0, .int .i64 0, .string ⟨#[]⟩, .bool false], ?_, rfl⟩
  rw [hW, hN, Nat.zero_add, Nat.mul_comm (l.length - 1) 4]
end Go.Ai

namespace Go.Ai
open Go Go.RowKit Go.Proofs Go.Sp
set_option maxRecDepth 100000
set_option maxHeartbeats 4000000
set_option linter.unusedVariables false
set_option linter.unusedSimpArgs false
theorem ksZ_in : ∀ (l : List K) (i j : Nat) (e : List Value) (v : Value), (l.map kZ)[i]? = some e → e[j]? = some v → (ksZ l)[i * 4 + j]? = some v
  | [], i, j, e, v, h, _ => by simp at h
  | k :: l, 0, j, e, v, h, hv => by
    simp at h; subst h
    have hj : j < (kZ k).length := (List.getElem?_eq_some_iff.1 hv).1
    show (kZ k ++ ksZ l)[0 * 4 + j]? = some v
    rw [Nat.zero_mul, Nat.zero_add, List.getElem?_append_left hj]; exact hv
  | k :: l, i + 1, j, e, v, h, hv => by
    have := ksZ_in l i j e v (by simpa using h) hv
    show (kZ k ++ ksZ l)[(i + 1) * 4 + j]? = some v
    rw [List.getElem?_append_right (by show 4 ≤ _; omega)]
    rw [show (i + 1) * 4 + j - (kZ k).length = i * 4 + j by show (i + 1) * 4 + j - 4 = _; omega]
    exact this
theorem ksZ_out : ∀ (l : List K) (t : Nat) (v : Value), (ksZ l)[t]? = some v → ∃ i j e, (l.map kZ)[i]? = some e ∧ e[j]? = some v ∧ t = i * 4 + j
  | [], t, v, h => by simp [ksZ] at h
  | k :: l, t, v, h => by
    have h : (kZ k ++ ksZ l)[t]? = some v := h
    by_cases ht : t < 4
    · rw [List.getElem?_append_left (by show t < 4; exact ht)] at h
      exact ⟨0, t, kZ k, rfl, h, by omega⟩
    · rw [List.getElem?_append_right (by show 4 ≤ t; omega)] at h
      obtain ⟨i, j, e, h1, h2, h3⟩ := ksZ_out l _ v h
      have h3 : t - 4 = i * 4 + j := h3
      exact ⟨i + 1, j, e, by simpa using h1, h2, by omega⟩
theorem eatDelete (l : List K) (n : Nat) (hn : n < l.length) : EatOk Tryd.prog 75 4 l.length (l.map kZ) [.int .i64 n, .int .i64 (n + 1 : Nat)] (some (l.length - 1)) ((l.take n ++ l.drop (n + 1)).map kZ) := by
  intro w g cap hcap hg hc hth
  have hH : ∀ t v, (ksZ l)[t]? = some v → w.cell? ⟨g, t, none⟩ = some v := by
    intro t v h
    obtain ⟨i, j, e, h1, h2, rfl⟩ := ksZ_out l t v h
    exact hc i j e v h1 h2
  refine (deleteCalls g cap n l w hn hcap hH (fun t ht => (hth t (by omega)).2)).mono ?_
  rintro e w' ⟨rfl, vs, rfl, hvs⟩
  obtain ⟨a1, a2, a3, a4, a5⟩ := setCells_other g (ksZ (l.drop (n + 1))) (n * 4) w.drew
  obtain ⟨b1, b2, b3, b4, b5⟩ := setCells_other g vs (4 * (l.length - 1)) (w.drew.setCells g (n * 4) (ksZ (l.drop (n + 1))))
  have hdl : (ksZ (l.drop (n + 1))).length = 4 * (l.length - (n + 1)) := by rw [ksZ_len, List.length_drop]
  have htl : (ksZ (l.take n)).length = 4 * n := by rw [ksZ_len, List.length_take]; omega
  refine ⟨rfl, fun m hm => by cases hm; omega, fun x _ hx => by rw [b1 x hx, a1 x hx]; rfl, by rw [b2, a2]; exact Nat.le_refl _, by rw [b3, a3]; rfl, by rw [b4, a4]; rfl, by rw [b5, a5]; rfl, fun j hj => World.isSome_setCells g vs _ _ _ (World.isSome_setCells g _ _ _ _ hj), fun j => by rw [World.frozen?_setCells, World.frozen?_setCells]; rfl, fun i j e v he hv => ?_⟩
  have hi := (List.getElem?_eq_some_iff.1 he).1
  rw [List.length_map, List.length_append, List.length_take, List.length_drop] at hi
  have hj4 : j < 4 := by
    rw [List.getElem?_map] at he
    simp only [Option.map_eq_some_iff] at he
    obtain ⟨k, _, rfl⟩ := he
    exact (List.getElem?_eq_some_iff.1 hv).1
  have hk := ksZ_in _ i j e v he hv
  rw [World.cell?_setCells_out g vs _ _ ⟨g, i * 4 + j, none⟩ (fun _ _ => .inl (by show i * 4 + j < 4 * (l.length - 1); omega))]
  rw [ksZ_append] at hk
  by_cases ht : i * 4 + j < n * 4
  · rw [World.cell?_setCells_out g _ _ _ ⟨g, i * 4 + j, none⟩ (fun _ _ => .inl ht)]
    rw [List.getElem?_append_left (by omega)] at hk
    refine hH _ v ?_
    conv => lhs; rw [← List.take_append_drop n l]
    rw [ksZ_append, List.getElem?_append_left (by omega)]
    exact hk
  · rw [List.getElem?_append_right (by omega), htl] at hk
    have hlt := (List.getElem?_eq_some_iff.1 hk).1
    have := World.cell?_setCells_in g (ksZ (l.drop (n + 1))) (n * 4) w.drew (fun j hj => (hth _ (by
      have : (l.length - (n + 1)) + (n + 1) = l.length := by omega
      have := Nat.mul_le_mul_right 4 hcap
      omega)).1) (i * 4 + j - 4 * n) hlt
    rw [show n * 4 + (i * 4 + j - 4 * n) = i * 4 + j by omega] at this
    rw [this]
    rw [List.getElem?_eq_getElem hlt] at hk
    exact hk
end Go.Ai
