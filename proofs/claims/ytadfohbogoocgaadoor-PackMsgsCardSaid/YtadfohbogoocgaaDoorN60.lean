/- PackOps: the first loop makes texts, the second one reads them; what the program hands back is written over. -/
import Derived.Test.YtadfohbogoocgaaDoorN24
import Derived.Test.YtadfohbogoocgaaDoorN27
import Derived.Test.YtadfohbogoocgaaDoorE6
set_option linter.unusedVariables false
set_option linter.unusedSimpArgs false
namespace Go.Ai
open Go Go.RowKit Go.Proofs Go.Sp
set_option maxRecDepth 10000
set_option maxHeartbeats 8000000
set_option linter.unusedVariables false
set_option linter.unusedSimpArgs false
theorem may_gone {o : O} (h : mayB o = true) : o.f5.length ≤ 200 := by
  have q := may_in h
  by_cases h2 : o.f2 = 2
  · rw [(q.k h2).2.2.2.2.2]; decide
  · exact (q.e h2).2.2.1
theorem rdO_may {p : Pt} (h : (rdO p).2.2 = false) : mayB (rdO p).1 = true := by
  unfold rdO rdO3 at h ⊢
  split at h
  · rename_i hc
    rw [if_pos hc]
    unfold rdTog fin at h ⊢
    simp only [Bool.or_eq_false_iff, Bool.not_eq_false'] at h
    exact h.2
  · rename_i hc
    rw [if_neg hc]
    unfold rdEd rdEd2 rdEd3 rdEd4 fin at h ⊢
    simp only [Bool.or_eq_false_iff, Bool.not_eq_false'] at h
    exact h.2
/-- Both takings of an op tell the same, and it is small. -/
theorem take_text (s : ByteArray) (hs : s.size ≤ 100000) : ∃ (o : O) (r : ByteArray) (b : Bool), AF Tryd.prog XX 34 [vs s] (.tup [.agg (oC o), vs r, vi (if b then 7 else 0)]) ∧ AF Tryd.prog XX 35 [vs s] (.tup [.agg (oC o), vs r, vo (!b)]) ∧ o.f5.length ≤ 200 := by
  have hf : Few 100000 (bytesOf s, false) := ⟨bytesOf_bytes s, by show (bytesOf s).length ≤ 100000; rw [bytesOf_length]; exact hs⟩
  have hg : GoodP (bytesOf s, false) := ⟨hf.1, Nat.lt_of_le_of_lt hf.2 (by decide)⟩
  have h1 := packTakeOp hg
  have h2 := refTakeOp hf
  have ha := alike_op hf (q := (bytesOf s, false)) (p := (bytesOf s, false)) ⟨rfl, fun _ => rfl, fun h => by cases h⟩
  have hm := rdO_may (p := (bytesOf s, false))
  rw [str_bytesOf] at h1 h2
  generalize rdO (bytesOf s, false) = x at *
  generalize rkO (bytesOf s, false) = y at *
  obtain ⟨o, q, b⟩ := x
  obtain ⟨o', q', b'⟩ := y
  obtain ⟨a1, a2⟩ := ha
  have a1 : b' = b := a1
  subst a1
  cases b' with
  | true => exact ⟨o0, strOfNums [], true, h1, h2, by decide⟩
  | false =>
    obtain ⟨a3, a4⟩ := a2 rfl
    have a3 : o' = o := a3
    have a4 : q' = q := a4
    subst a3 a4
    exact ⟨o', strOfNums q', false, h1, h2, may_gone (hm rfl)⟩
/-- the first so many of a row of one's own -/
theorem ef_cut {P : Program} {h : Nat → Option Blk} {site : Nat} {T Et : TypeId} {x y : Operand} {b ver len n : Nat} {k : Blk} {kk : IntKind} {m : Int} (hm : m = (n : Int)) (hE : elemT P T = some Et) (hk : live h b ver = some k) (hs : sizeT P Et = some k.sz) (h0 : 0 < n) (hl : n ≤ len) :
    eff P site (.slice T x none (some y) none) [.sl b ver 0 len, .val (.int kk m)] h = some (.sl b ver 0 n, []) := by
  have e : effSlice P T (.sl b ver 0 len) (some (0, some n, false)) h = some (.sl b ver 0 n) := by
    unfold effSlice
    simp only [hE, hk, hs]
    simp [h0, hl]
  show same (effSlice P T (.sl b ver 0 len) (bnds none (some y) none [.val (.int kk m)]) h) = _
  rw [nb_hi hm, e]; rfl
/-- A list of the call's own that is written no more: its first so many. -/
theorem ren_frzT {h : Nat → Option Blk} {H : List (Nat × Blk)} {α : Type} (enc : α → List V) (l l' : List α) {b ver len : Nat} {k : Blk} {sz : Nat} (hk : live h b ver = some k) (hc : (k.cl && b % 2 == 0) = true) (hes : k.es = l.map enc) (hlen : len ≤ l.length) (hl' : l.take len = l') (hs : k.sz = sz) (hd : HH (odds h) H b = none) :
    Ren h H (.sl b ver 0 len) (.isl sz (l'.map enc)) := by
  simp only [Bool.and_eq_true, beq_iff_eq] at hc
  subst hl'
  refine .frz _ _ _ _ _ ?_ hd
  unfold close0
  simp only [hk]
  rw [if_pos ⟨hc.1, by rw [hes, List.length_map]; omega, hc.2⟩, hes, hs, List.drop_zero, ← List.map_take]
def opN (c : Bool) : Nat := bif c then newId (siteOf 14 4) 0 else newId (siteOf 3 2) 0
theorem opsRest (Q : List ByteArray) (hQ : ∀ s ∈ Q, s.size ≤ 100000) (hl : Q.length ≤ 1000000) (h0 : Nat → Option Blk) :
    AW Tryd.prog XX 133 (sk 5 (bodyOf Tryd.f10)) ⟨L [.any, .any, .any, .isl 1 (Q.map sC)], HH (odds h0) []⟩ (retQ Tryd.prog Tryd.f10 0 (vo true) [] []) := by
  have hlq : (Q.map sC).length = Q.length := List.length_map ..
  repeat (first | refine ao_e rfl rfl rfl rfl rfl ?_ | refine ao_eff (v := V.val (Value.bool true)) (ups := []) rfl rfl rfl rfl ?_ | refine ao_eff (v := V.val (Value.bool false)) (ups := []) rfl rfl rfl rfl ?_ | refine aw_seq ?_ | refine aw_region ?_ | refine aw_block ?_ | refine ao_nil ⟨fun h => (Bool.false_ne_true h).elim, ?_⟩ | refine ao_nil ⟨fun _ => ⟨by kernel_rfl, by kernel_rfl⟩, ?_⟩ | refine ao_skip rfl rfl rfl ?_ | refine aw_true rfl ?_ | refine aw_false rfl ?_ | refine aw_skip ?_ | refine aw_exit ?_)
  refine aw_rounds (T := Nat) (fun j => j ≤ Q.length) (fun j => [.any, .any, .any, .isl 1 (Q.map sC), .any, .any, .any, .any, .any, .any, vi j]) (fun _ => []) (fun j => Q.length - j) 0 (Nat.zero_le _) ⟨.any _, .any _, .any _, .same _ rfl, .any _, .any _, .any _, .any _, .any _, .any _, .same _ rfl, trivial⟩ trivial ?_
  rintro j h1 hj
  by_cases hjl : j < Q.length
  · obtain ⟨o, r, b, t1, t2, t3⟩ := take_text Q[j] (hQ _ (List.getElem_mem hjl))
    have hej : (Q.map sC)[Int.toNat (j : Int)]? = some [vs Q[j]] := by rw [Int.toNat_natCast, List.getElem?_map, List.getElem?_eq_getElem hjl]; rfl
    have e2 := eqOp (X := XX) o o (by omega)
    rw [decide_eq_true rfl] at e2
    have eE := eatElems o.f5 (by omega)
    generalize Q[j] = s at *
    cases b
    all_goals
      repeat (first | refine ao_e rfl rfl rfl rfl rfl ?_ | refine ao_eff (v := V.val (Value.bool true)) (ups := []) rfl rfl rfl rfl ?_ | refine ao_eff (v := V.val (Value.bool false)) (ups := []) rfl rfl rfl rfl ?_ | refine aw_seq ?_ | refine aw_region ?_ | refine aw_block ?_ | refine ao_nil ⟨fun h => (Bool.false_ne_true h).elim, ?_⟩ | refine ao_nil ⟨fun _ => ⟨by kernel_rfl, by kernel_rfl⟩, ?_⟩ | refine ao_skip rfl rfl rfl ?_ | refine aw_true rfl ?_ | refine aw_false rfl ?_ | refine aw_skip ?_ | refine aw_exit ?_)
      refine ao_yes rfl rfl rfl rfl (by omega) ?_
      repeat (first | refine ao_e rfl rfl rfl rfl rfl ?_ | refine ao_eff (v := V.val (Value.bool true)) (ups := []) rfl rfl rfl rfl ?_ | refine ao_eff (v := V.val (Value.bool false)) (ups := []) rfl rfl rfl rfl ?_ | refine aw_seq ?_ | refine aw_region ?_ | refine aw_block ?_ | refine ao_nil ⟨fun h => (Bool.false_ne_true h).elim, ?_⟩ | refine ao_nil ⟨fun _ => ⟨by kernel_rfl, by kernel_rfl⟩, ?_⟩ | refine ao_skip rfl rfl rfl ?_ | refine aw_true rfl ?_ | refine aw_false rfl ?_ | refine aw_skip ?_ | refine aw_exit ?_ | refine ao_e rfl rfl rfl rfl (ef_ix rfl rfl (by omega) hej) ?_ | refine ao_new rfl rfl rfl rfl rfl rfl t1 rfl rfl ?_ | refine ao_fun rfl rfl rfl rfl rfl rfl t2 ?_ | refine ao_fun rfl rfl rfl rfl rfl rfl (lawNum _) ?_ | refine ao_peek rfl rfl rfl rfl rfl rfl e2 rfl rfl ?_ | refine ao_nstr rfl rfl rfl rfl (fun _ => ?_) (fun hb => absurd rfl hb) | refine ao_eatn rfl rfl rfl rfl rfl rfl rfl (by kernel_rfl) eE ?_)
      exact ⟨j + 1, hjl, by omega, ⟨.any _, .any _, .any _, .same _ rfl, .any _, .any _, .any _, .any _, .any _, .any _, rsucc j (by omega), trivial⟩, trivial⟩
  · repeat (first | refine ao_e rfl rfl rfl rfl rfl ?_ | refine ao_eff (v := V.val (Value.bool true)) (ups := []) rfl rfl rfl rfl ?_ | refine ao_eff (v := V.val (Value.bool false)) (ups := []) rfl rfl rfl rfl ?_ | refine aw_seq ?_ | refine aw_region ?_ | refine aw_block ?_ | refine ao_nil ⟨fun h => (Bool.false_ne_true h).elim, ?_⟩ | refine ao_nil ⟨fun _ => ⟨by kernel_rfl, by kernel_rfl⟩, ?_⟩ | refine ao_skip rfl rfl rfl ?_ | refine aw_true rfl ?_ | refine aw_false rfl ?_ | refine aw_skip ?_ | refine aw_exit ?_)
    refine ao_no rfl rfl rfl rfl (by omega) ?_
    repeat (first | refine ao_e rfl rfl rfl rfl rfl ?_ | refine ao_eff (v := V.val (Value.bool true)) (ups := []) rfl rfl rfl rfl ?_ | refine ao_eff (v := V.val (Value.bool false)) (ups := []) rfl rfl rfl rfl ?_ | refine aw_seq ?_ | refine aw_region ?_ | refine aw_block ?_ | refine ao_nil ⟨fun h => (Bool.false_ne_true h).elim, ?_⟩ | refine ao_nil ⟨fun _ => ⟨by kernel_rfl, by kernel_rfl⟩, ?_⟩ | refine ao_skip rfl rfl rfl ?_ | refine aw_true rfl ?_ | refine aw_false rfl ?_ | refine aw_skip ?_ | refine aw_exit ?_)
    refine ao_fun rfl rfl rfl rfl rfl rfl lawWakes ?_
    repeat (first | refine ao_e rfl rfl rfl rfl rfl ?_ | refine ao_eff (v := V.val (Value.bool true)) (ups := []) rfl rfl rfl rfl ?_ | refine ao_eff (v := V.val (Value.bool false)) (ups := []) rfl rfl rfl rfl ?_ | refine aw_seq ?_ | refine aw_region ?_ | refine aw_block ?_ | refine ao_nil ⟨fun h => (Bool.false_ne_true h).elim, ?_⟩ | refine ao_nil ⟨fun _ => ⟨by kernel_rfl, by kernel_rfl⟩, ?_⟩ | refine ao_skip rfl rfl rfl ?_ | refine aw_true rfl ?_ | refine aw_false rfl ?_ | refine aw_skip ?_ | refine aw_exit ?_)
    exact aw_ret ⟨.inr rfl, _, _, _, _, _, rfl, rfl, rfl, rfl, rfl, rfl⟩
theorem opev (c b : Bool) : (opN c % 2 == 0 || b) = true := by cases c <;> rfl
theorem opsLoop (p : A12) (lo1 : p.O.O.length ≤ 900) (lo2 : ∀ o ∈ p.O.O, o.f4.size ≤ 4000 ∧ o.f5.length ≤ 900) (R : List ByteArray) (n : Nat) (hn : n ≤ R.length) (hn4 : n ≤ 4) (hR : ∀ s ∈ R, s.size ≤ 100000) (h0 : Nat → Option Blk) :
    AW Tryd.prog XX 133 (sk 4 (bodyOf Tryd.f10)) ⟨L [.any, .ptr (newId (siteOf 0 0) 0) 0 0 0, .any, .sl (newId (siteOf 3 2) 0) 0 0 n], HH (odds h0) [(newId (siteOf 0 0) 0, ⟨0, 5, true, true, [a12C p]⟩), (newId (siteOf 3 2) 0, ⟨0, 1, true, true, R.map sC⟩)]⟩ (retQ Tryd.prog Tryd.f10 0 (vo true) [] []) := by
  have hlO : (p.O.O.map oC).length = p.O.O.length := List.length_map ..
  repeat (first | refine ao_e rfl rfl rfl rfl rfl ?_ | refine ao_eff (v := V.val (Value.bool true)) (ups := []) rfl rfl rfl rfl ?_ | refine ao_eff (v := V.val (Value.bool false)) (ups := []) rfl rfl rfl rfl ?_ | refine aw_seq ?_ | refine aw_region ?_ | refine aw_block ?_ | refine ao_nil ⟨fun h => (Bool.false_ne_true h).elim, ?_⟩ | refine ao_nil ⟨fun _ => ⟨by kernel_rfl, by kernel_rfl⟩, ?_⟩ | refine ao_skip rfl rfl rfl ?_ | refine aw_true rfl ?_ | refine aw_false rfl ?_ | refine aw_skip ?_ | refine aw_exit ?_)
  refine aw_rounds (T := Nat × Bool × List ByteArray × Nat) (fun t => t.1 ≤ 8 ∧ t.1 ≤ p.O.O.length ∧ t.2.2.2 ≤ t.2.2.1.length ∧ t.2.2.2 ≤ 4 + 31 * t.1 ∧ ∀ s ∈ t.2.2.1, s.size ≤ 100000) (fun t => [.any, .ptr (newId (siteOf 0 0) 0) 0 0 0, .any, .sl (opN t.2.1) 0 0 t.2.2.2, vi t.1]) (fun t => [(newId (siteOf 0 0) 0, ⟨0, 5, true, true, [a12C p]⟩), (opN t.2.1, ⟨0, 1, true, true, t.2.2.1.map sC⟩)]) (fun t => 8 - t.1) (0, false, R, n) ⟨Nat.zero_le _, Nat.zero_le _, hn, by simpa using hn4, hR⟩
    ⟨.any _, .ptr _ _ _ _ _ _ _ rfl rfl rfl rfl, .any _, .sl _ _ _ _ _ _ _ rfl rfl rfl rfl, .same _ rfl, trivial⟩ ⟨renB_cl rfl rfl rfl rfl rfl rfl, renB_cl rfl rfl rfl rfl (opev _ _) rfl, trivial⟩ ?_
  clear hn hn4 hR
  rintro ⟨i, c, R, n⟩ h1 ⟨hi8, hi, hn, hn4, hR⟩
  dsimp only at hi8 hi hn hn4 hR ⊢
  by_cases hlt : i < p.O.O.length ∧ i < 8
  · obtain ⟨hlt, hl8⟩ := hlt
    have hei : (p.O.O.map oC)[Int.toNat (i : Int)]? = some (oC p.O.O[i]) := by rw [Int.toNat_natCast, List.getElem?_map, List.getElem?_eq_getElem hlt]; rfl
    obtain ⟨hs4, hg9⟩ := lo2 _ (List.getElem_mem hlt)
    generalize p.O.O[i] = o at *
    have hcp := copyOp (X := XX) o (by omega)
    have h1 := packOp o ⟨by omega, by omega⟩
    have h3 := ref4Op o (by omega) (by omega)
    have e2 := eqOp (X := XX) o o (by omega)
    rw [decide_eq_true rfl] at e2
    cases hm : mayB o with
    | false =>
      rw [hm] at h1 h3
      cases c
      all_goals
        repeat (first | refine ao_e rfl rfl rfl rfl rfl ?_ | refine ao_eff (v := V.val (Value.bool true)) (ups := []) rfl rfl rfl rfl ?_ | refine ao_eff (v := V.val (Value.bool false)) (ups := []) rfl rfl rfl rfl ?_ | refine aw_seq ?_ | refine aw_region ?_ | refine aw_block ?_ | refine ao_nil ⟨fun h => (Bool.false_ne_true h).elim, ?_⟩ | refine ao_nil ⟨fun _ => ⟨by kernel_rfl, by kernel_rfl⟩, ?_⟩ | refine ao_skip rfl rfl rfl ?_ | refine aw_true rfl ?_ | refine aw_false rfl ?_ | refine aw_skip ?_ | refine aw_exit ?_)
        refine ao_yes rfl rfl rfl rfl (by omega) ?_
        repeat (first | refine ao_e rfl rfl rfl rfl rfl ?_ | refine ao_eff (v := V.val (Value.bool true)) (ups := []) rfl rfl rfl rfl ?_ | refine ao_eff (v := V.val (Value.bool false)) (ups := []) rfl rfl rfl rfl ?_ | refine aw_seq ?_ | refine aw_region ?_ | refine aw_block ?_ | refine ao_nil ⟨fun h => (Bool.false_ne_true h).elim, ?_⟩ | refine ao_nil ⟨fun _ => ⟨by kernel_rfl, by kernel_rfl⟩, ?_⟩ | refine ao_skip rfl rfl rfl ?_ | refine aw_true rfl ?_ | refine aw_false rfl ?_ | refine aw_skip ?_ | refine aw_exit ?_)
        refine ao_yes rfl rfl rfl rfl (by omega) ?_
        repeat (first | refine ao_e rfl rfl rfl rfl rfl ?_ | refine ao_eff (v := V.val (Value.bool true)) (ups := []) rfl rfl rfl rfl ?_ | refine ao_eff (v := V.val (Value.bool false)) (ups := []) rfl rfl rfl rfl ?_ | refine aw_seq ?_ | refine aw_region ?_ | refine aw_block ?_ | refine ao_nil ⟨fun h => (Bool.false_ne_true h).elim, ?_⟩ | refine ao_nil ⟨fun _ => ⟨by kernel_rfl, by kernel_rfl⟩, ?_⟩ | refine ao_skip rfl rfl rfl ?_ | refine aw_true rfl ?_ | refine aw_false rfl ?_ | refine aw_skip ?_ | refine aw_exit ?_ | refine ao_e rfl rfl rfl rfl (ef_ix rfl rfl (by omega) hei) ?_ | refine ao_fun rfl rfl rfl rfl rfl rfl hcp ?_ | refine ao_fun rfl rfl rfl rfl rfl rfl h1 ?_ | refine ao_fun rfl rfl rfl rfl rfl rfl h3 ?_ | refine ao_fun rfl rfl rfl rfl rfl rfl (lawNum _) ?_ | refine ao_fun rfl rfl rfl rfl rfl rfl e2 ?_ | refine ao_nstr rfl rfl rfl rfl (fun _ => ?_) (fun hb => absurd rfl hb))
      · exact ⟨(i + 1, false, R, n), ⟨by dsimp only; omega, hlt, hn, by dsimp only; omega, hR⟩, by dsimp only; omega, ⟨.any _, .ptr _ _ _ _ _ _ _ rfl rfl rfl rfl, .any _, .sl _ _ _ _ _ _ _ rfl rfl rfl rfl, rsucc i (by omega), trivial⟩, ⟨renB_cl rfl rfl rfl rfl rfl rfl, renB_cl rfl rfl rfl rfl (opev _ _) rfl, trivial⟩⟩
      · exact ⟨(i + 1, true, R, n), ⟨by dsimp only; omega, hlt, hn, by dsimp only; omega, hR⟩, by dsimp only; omega, ⟨.any _, .ptr _ _ _ _ _ _ _ rfl rfl rfl rfl, .any _, .sl _ _ _ _ _ _ _ rfl rfl rfl rfl, rsucc i (by omega), trivial⟩, ⟨renB_cl rfl rfl rfl rfl rfl rfl, renB_cl rfl rfl rfl rfl (opev _ _) rfl, trivial⟩⟩
    | true =>
      rw [hm] at h1 h3
      have h2 := refOp hm
      have hB := spellB_bytes o
      have hLl := spellB_len hm
      have hch := lawChanged (X := XX) (spellB o) hB (by omega) i (by omega)
      obtain ⟨C, hC⟩ : ∃ C, chgs (spellB o) i (if (spellB o).length = 0 then 0 else 14) = C := ⟨_, rfl⟩
      have hCl : C.length ≤ 31 := by rw [← hC, chgs_len]; split <;> omega
      have hCb : ∀ t ∈ C, t.length ≤ 4001 := by
        intro t ht
        rw [← hC] at ht
        have := (chgs_ok hB i _ t ht).2
        omega
      rw [hC] at hch
      clear hC
      generalize spellB o = L at *
      have hR2 : ∀ s ∈ R.take n ++ C.map strOfNums, s.size ≤ 100000 := by
        intro s hs
        rcases List.mem_append.1 hs with hs | hs
        · exact hR s (List.mem_of_mem_take hs)
        · obtain ⟨t, ht, rfl⟩ := List.mem_map.1 hs
          rw [strOfNums_size]
          have := hCb t ht
          omega
      have hes : (R.map sC).take n ++ C.map lC = (R.take n ++ C.map strOfNums).map sC := by rw [List.map_append, List.map_take, List.map_map]; rfl
      have hll : n + C.length ≤ (R.take n ++ C.map strOfNums).length := by rw [List.length_append, List.length_take, List.length_map]; omega
      have hln : n ≤ (R.map sC).length := by rw [List.length_map]; exact hn
      have hlc : (C.map lC).length = C.length := List.length_map ..
      cases c
      all_goals
        repeat (first | refine ao_e rfl rfl rfl rfl rfl ?_ | refine ao_eff (v := V.val (Value.bool true)) (ups := []) rfl rfl rfl rfl ?_ | refine ao_eff (v := V.val (Value.bool false)) (ups := []) rfl rfl rfl rfl ?_ | refine aw_seq ?_ | refine aw_region ?_ | refine aw_block ?_ | refine ao_nil ⟨fun h => (Bool.false_ne_true h).elim, ?_⟩ | refine ao_nil ⟨fun _ => ⟨by kernel_rfl, by kernel_rfl⟩, ?_⟩ | refine ao_skip rfl rfl rfl ?_ | refine aw_true rfl ?_ | refine aw_false rfl ?_ | refine aw_skip ?_ | refine aw_exit ?_)
        refine ao_yes rfl rfl rfl rfl (by omega) ?_
        repeat (first | refine ao_e rfl rfl rfl rfl rfl ?_ | refine ao_eff (v := V.val (Value.bool true)) (ups := []) rfl rfl rfl rfl ?_ | refine ao_eff (v := V.val (Value.bool false)) (ups := []) rfl rfl rfl rfl ?_ | refine aw_seq ?_ | refine aw_region ?_ | refine aw_block ?_ | refine ao_nil ⟨fun h => (Bool.false_ne_true h).elim, ?_⟩ | refine ao_nil ⟨fun _ => ⟨by kernel_rfl, by kernel_rfl⟩, ?_⟩ | refine ao_skip rfl rfl rfl ?_ | refine aw_true rfl ?_ | refine aw_false rfl ?_ | refine aw_skip ?_ | refine aw_exit ?_)
        refine ao_yes rfl rfl rfl rfl (by omega) ?_
        repeat (first | refine ao_e rfl rfl rfl rfl rfl ?_ | refine ao_eff (v := V.val (Value.bool true)) (ups := []) rfl rfl rfl rfl ?_ | refine ao_eff (v := V.val (Value.bool false)) (ups := []) rfl rfl rfl rfl ?_ | refine aw_seq ?_ | refine aw_region ?_ | refine aw_block ?_ | refine ao_nil ⟨fun h => (Bool.false_ne_true h).elim, ?_⟩ | refine ao_nil ⟨fun _ => ⟨by kernel_rfl, by kernel_rfl⟩, ?_⟩ | refine ao_skip rfl rfl rfl ?_ | refine aw_true rfl ?_ | refine aw_false rfl ?_ | refine aw_skip ?_ | refine aw_exit ?_ | refine ao_e rfl rfl rfl rfl (ef_ix rfl rfl (by omega) hei) ?_ | refine ao_fun rfl rfl rfl rfl rfl rfl hcp ?_ | refine ao_fun rfl rfl rfl rfl rfl rfl h1 ?_ | refine ao_fun rfl rfl rfl rfl rfl rfl h3 ?_ | refine ao_fun rfl rfl rfl rfl rfl rfl (lawNum _) ?_ | refine ao_fun rfl rfl rfl rfl rfl rfl e2 ?_ | refine ao_nstr rfl rfl rfl rfl (fun _ => ?_) (fun hb => absurd rfl hb) | refine ao_fun rfl rfl rfl rfl rfl rfl h2 ?_ | refine ao_fun rfl rfl rfl rfl rfl rfl hch ?_ | refine ao_e rfl rfl rfl rfl (ef_append (by_ := 16) (len' := n + C.length) rfl rfl rfl rfl rfl rfl rfl hln (by rw [hlc]; omega) hes (by rw [hlc])) ?_)
        exact ⟨(i + 1, true, R.take n ++ C.map strOfNums, n + C.length), ⟨by dsimp only; omega, hlt, hll, by dsimp only; omega, hR2⟩, by dsimp only; omega, ⟨.any _, .ptr _ _ _ _ _ _ _ rfl rfl rfl rfl, .any _, .sl _ _ _ _ _ _ _ rfl rfl rfl rfl, rsucc i (by omega), trivial⟩, ⟨renB_cl rfl rfl rfl rfl rfl rfl, renB_cl rfl rfl rfl rfl (opev _ _) rfl, trivial⟩⟩
  · have hQ : ∀ s ∈ R.take n, s.size ≤ 100000 := fun s hs => hR s (List.mem_of_mem_take hs)
    have hQl : (R.take n).length ≤ 1000000 := by rw [List.length_take]; omega
    have hrest := fun h0 => opsRest (R.take n) hQ hQl h0
    by_cases hlt1 : i < p.O.O.length
    · cases c
      all_goals
        repeat (first | refine ao_e rfl rfl rfl rfl rfl ?_ | refine ao_eff (v := V.val (Value.bool true)) (ups := []) rfl rfl rfl rfl ?_ | refine ao_eff (v := V.val (Value.bool false)) (ups := []) rfl rfl rfl rfl ?_ | refine aw_seq ?_ | refine aw_region ?_ | refine aw_block ?_ | refine ao_nil ⟨fun h => (Bool.false_ne_true h).elim, ?_⟩ | refine ao_nil ⟨fun _ => ⟨by kernel_rfl, by kernel_rfl⟩, ?_⟩ | refine ao_skip rfl rfl rfl ?_ | refine aw_true rfl ?_ | refine aw_false rfl ?_ | refine aw_skip ?_ | refine aw_exit ?_)
        refine ao_yes rfl rfl rfl rfl (by omega) ?_
        repeat (first | refine ao_e rfl rfl rfl rfl rfl ?_ | refine ao_eff (v := V.val (Value.bool true)) (ups := []) rfl rfl rfl rfl ?_ | refine ao_eff (v := V.val (Value.bool false)) (ups := []) rfl rfl rfl rfl ?_ | refine aw_seq ?_ | refine aw_region ?_ | refine aw_block ?_ | refine ao_nil ⟨fun h => (Bool.false_ne_true h).elim, ?_⟩ | refine ao_nil ⟨fun _ => ⟨by kernel_rfl, by kernel_rfl⟩, ?_⟩ | refine ao_skip rfl rfl rfl ?_ | refine aw_true rfl ?_ | refine aw_false rfl ?_ | refine aw_skip ?_ | refine aw_exit ?_)
        refine ao_no rfl rfl rfl rfl (by omega) ?_
        repeat (first | exact aw_hand [.any, .any, .any, .isl 1 ((R.take n).map sC)] [] hrest ⟨.any _, .any _, .any _, ren_frzT sC R _ rfl rfl rfl hn rfl rfl rfl, trivial⟩ trivial | refine ao_e rfl rfl rfl rfl rfl ?_ | refine ao_eff (v := V.val (Value.bool true)) (ups := []) rfl rfl rfl rfl ?_ | refine ao_eff (v := V.val (Value.bool false)) (ups := []) rfl rfl rfl rfl ?_ | refine aw_seq ?_ | refine aw_region ?_ | refine aw_block ?_ | refine ao_nil ⟨fun h => (Bool.false_ne_true h).elim, ?_⟩ | refine ao_nil ⟨fun _ => ⟨by kernel_rfl, by kernel_rfl⟩, ?_⟩ | refine ao_skip rfl rfl rfl ?_ | refine aw_true rfl ?_ | refine aw_false rfl ?_ | refine aw_skip ?_ | refine aw_exit ?_)
    · cases c
      all_goals
        repeat (first | refine ao_e rfl rfl rfl rfl rfl ?_ | refine ao_eff (v := V.val (Value.bool true)) (ups := []) rfl rfl rfl rfl ?_ | refine ao_eff (v := V.val (Value.bool false)) (ups := []) rfl rfl rfl rfl ?_ | refine aw_seq ?_ | refine aw_region ?_ | refine aw_block ?_ | refine ao_nil ⟨fun h => (Bool.false_ne_true h).elim, ?_⟩ | refine ao_nil ⟨fun _ => ⟨by kernel_rfl, by kernel_rfl⟩, ?_⟩ | refine ao_skip rfl rfl rfl ?_ | refine aw_true rfl ?_ | refine aw_false rfl ?_ | refine aw_skip ?_ | refine aw_exit ?_)
        refine ao_no rfl rfl rfl rfl (by omega) ?_
        repeat (first | exact aw_hand [.any, .any, .any, .isl 1 ((R.take n).map sC)] [] hrest ⟨.any _, .any _, .any _, ren_frzT sC R _ rfl rfl rfl hn rfl rfl rfl, trivial⟩ trivial | refine ao_e rfl rfl rfl rfl rfl ?_ | refine ao_eff (v := V.val (Value.bool true)) (ups := []) rfl rfl rfl rfl ?_ | refine ao_eff (v := V.val (Value.bool false)) (ups := []) rfl rfl rfl rfl ?_ | refine aw_seq ?_ | refine aw_region ?_ | refine aw_block ?_ | refine ao_nil ⟨fun h => (Bool.false_ne_true h).elim, ?_⟩ | refine ao_nil ⟨fun _ => ⟨by kernel_rfl, by kernel_rfl⟩, ?_⟩ | refine ao_skip rfl rfl rfl ?_ | refine aw_true rfl ?_ | refine aw_false rfl ?_ | refine aw_skip ?_ | refine aw_exit ?_)
theorem lawPackOps (p : A12) (hg : G12 p) : AF Tryd.prog XX 10 [.agg (a12C p)] (vo true) := by
  have hH := lawHeavy12 (X := XX) p hg
  refine ac_mk (by kernel_rfl) Tryd.func10 rfl (lb rfl) rfl rfl ?_
  cases hh : heavy12 p with
  | true =>
    rw [hh] at hH
    repeat (first | refine ao_e rfl rfl rfl rfl rfl ?_ | refine ao_eff (v := V.val (Value.bool true)) (ups := []) rfl rfl rfl rfl ?_ | refine ao_eff (v := V.val (Value.bool false)) (ups := []) rfl rfl rfl rfl ?_ | refine aw_seq ?_ | refine aw_region ?_ | refine aw_block ?_ | refine ao_nil ⟨fun h => (Bool.false_ne_true h).elim, ?_⟩ | refine ao_nil ⟨fun _ => ⟨by kernel_rfl, by kernel_rfl⟩, ?_⟩ | refine ao_skip rfl rfl rfl ?_ | refine aw_true rfl ?_ | refine aw_false rfl ?_ | refine aw_skip ?_ | refine aw_exit ?_)
    refine ao_fun rfl rfl rfl rfl rfl rfl hH ?_
    repeat (first | refine ao_e rfl rfl rfl rfl rfl ?_ | refine ao_eff (v := V.val (Value.bool true)) (ups := []) rfl rfl rfl rfl ?_ | refine ao_eff (v := V.val (Value.bool false)) (ups := []) rfl rfl rfl rfl ?_ | refine aw_seq ?_ | refine aw_region ?_ | refine aw_block ?_ | refine ao_nil ⟨fun h => (Bool.false_ne_true h).elim, ?_⟩ | refine ao_nil ⟨fun _ => ⟨by kernel_rfl, by kernel_rfl⟩, ?_⟩ | refine ao_skip rfl rfl rfl ?_ | refine aw_true rfl ?_ | refine aw_false rfl ?_ | refine aw_skip ?_ | refine aw_exit ?_)
    exact aw_ret ⟨.inr rfl, _, _, _, _, _, rfl, rfl, rfl, rfl, rfl, rfl⟩
  | false =>
    rw [hh] at hH
    obtain ⟨⟨lo1, lo2⟩, _, ls1, ls2⟩ := light hh
    have hC := copyStrsOut (X := XX) p.S (by omega)
    have hlS : (p.S.map sC).length = p.S.length := List.length_map ..
    have hR : ∀ s ∈ p.S, s.size ≤ 100000 := fun s hs => by have := ls2 s hs; omega
    repeat (first | refine ao_e rfl rfl rfl rfl rfl ?_ | refine ao_eff (v := V.val (Value.bool true)) (ups := []) rfl rfl rfl rfl ?_ | refine ao_eff (v := V.val (Value.bool false)) (ups := []) rfl rfl rfl rfl ?_ | refine aw_seq ?_ | refine aw_region ?_ | refine aw_block ?_ | refine ao_nil ⟨fun h => (Bool.false_ne_true h).elim, ?_⟩ | refine ao_nil ⟨fun _ => ⟨by kernel_rfl, by kernel_rfl⟩, ?_⟩ | refine ao_skip rfl rfl rfl ?_ | refine aw_true rfl ?_ | refine aw_false rfl ?_ | refine aw_skip ?_ | refine aw_exit ?_)
    refine ao_fun rfl rfl rfl rfl rfl rfl hH ?_
    repeat (first | refine ao_e rfl rfl rfl rfl rfl ?_ | refine ao_eff (v := V.val (Value.bool true)) (ups := []) rfl rfl rfl rfl ?_ | refine ao_eff (v := V.val (Value.bool false)) (ups := []) rfl rfl rfl rfl ?_ | refine aw_seq ?_ | refine aw_region ?_ | refine aw_block ?_ | refine ao_nil ⟨fun h => (Bool.false_ne_true h).elim, ?_⟩ | refine ao_nil ⟨fun _ => ⟨by kernel_rfl, by kernel_rfl⟩, ?_⟩ | refine ao_skip rfl rfl rfl ?_ | refine aw_true rfl ?_ | refine aw_false rfl ?_ | refine aw_skip ?_ | refine aw_exit ?_)
    refine ao_out rfl rfl rfl rfl rfl rfl hC ?_
    repeat (first | refine ao_e rfl rfl rfl rfl rfl ?_ | refine ao_eff (v := V.val (Value.bool true)) (ups := []) rfl rfl rfl rfl ?_ | refine ao_eff (v := V.val (Value.bool false)) (ups := []) rfl rfl rfl rfl ?_ | refine aw_seq ?_ | refine aw_region ?_ | refine aw_block ?_ | refine ao_nil ⟨fun h => (Bool.false_ne_true h).elim, ?_⟩ | refine ao_nil ⟨fun _ => ⟨by kernel_rfl, by kernel_rfl⟩, ?_⟩ | refine ao_skip rfl rfl rfl ?_ | refine aw_true rfl ?_ | refine aw_false rfl ?_ | refine aw_skip ?_ | refine aw_exit ?_)
    by_cases h4 : 4 < p.S.length
    · refine ao_yes rfl rfl rfl rfl (by omega) ?_
      repeat (first | exact aw_hand _ _ (fun h0 => opsLoop p lo1 lo2 p.S 4 (by omega) (by omega) hR h0) ⟨.any _, .ptr _ _ _ _ _ _ _ rfl rfl rfl rfl, .any _, .sl _ _ _ _ _ _ _ rfl rfl rfl rfl, trivial⟩ ⟨renB_cl rfl rfl rfl rfl rfl rfl, renB_cl rfl rfl rfl rfl rfl rfl, trivial⟩ | refine ao_e rfl rfl rfl rfl rfl ?_ | refine ao_eff (v := V.val (Value.bool true)) (ups := []) rfl rfl rfl rfl ?_ | refine ao_eff (v := V.val (Value.bool false)) (ups := []) rfl rfl rfl rfl ?_ | refine aw_seq ?_ | refine aw_region ?_ | refine aw_block ?_ | refine ao_nil ⟨fun h => (Bool.false_ne_true h).elim, ?_⟩ | refine ao_nil ⟨fun _ => ⟨by kernel_rfl, by kernel_rfl⟩, ?_⟩ | refine ao_skip rfl rfl rfl ?_ | refine aw_true rfl ?_ | refine aw_false rfl ?_ | refine aw_skip ?_ | refine aw_exit ?_ | refine ao_e rfl rfl rfl rfl (ef_cut (n := 4) rfl rfl rfl rfl (by decide) (by omega)) ?_)
    · refine ao_no rfl rfl rfl rfl (by omega) ?_
      repeat (first | exact aw_hand _ _ (fun h0 => opsLoop p lo1 lo2 p.S p.S.length (Nat.le_refl _) (by omega) hR h0) ⟨.any _, .ptr _ _ _ _ _ _ _ rfl rfl rfl rfl, .any _, .sl _ _ _ _ _ _ _ rfl rfl rfl rfl, trivial⟩ ⟨renB_cl rfl rfl rfl rfl rfl rfl, renB_cl rfl rfl rfl rfl rfl rfl, trivial⟩ | refine ao_e rfl rfl rfl rfl rfl ?_ | refine ao_eff (v := V.val (Value.bool true)) (ups := []) rfl rfl rfl rfl ?_ | refine ao_eff (v := V.val (Value.bool false)) (ups := []) rfl rfl rfl rfl ?_ | refine aw_seq ?_ | refine aw_region ?_ | refine aw_block ?_ | refine ao_nil ⟨fun h => (Bool.false_ne_true h).elim, ?_⟩ | refine ao_nil ⟨fun _ => ⟨by kernel_rfl, by kernel_rfl⟩, ?_⟩ | refine ao_skip rfl rfl rfl ?_ | refine aw_true rfl ?_ | refine aw_false rfl ?_ | refine aw_skip ?_ | refine aw_exit ?_)
end Go.Ai
