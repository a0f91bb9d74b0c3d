/- PackMsgs: the first loop makes texts, the second one reads them; what the program hands back is written over. -/
import Derived.Test.YtadfohbogoocgaaDoorN60
import Derived.Test.YtadfohbogoocgaaDoorN33
set_option linter.unusedVariables false
set_option linter.unusedSimpArgs false
namespace Go.Ai
open Go Go.RowKit Go.Proofs Go.Sp
set_option maxRecDepth 10000
set_option maxHeartbeats 8000000
set_option linter.unusedVariables false
set_option linter.unusedSimpArgs false
/-- Both takings of a message tell the same, and it is small. -/
theorem take_msgs (s : ByteArray) (hs : s.size ≤ 100000) : ∃ (m : M) (b : Bool), AF Tryd.prog XX 24 [vs s] (.tup [.agg (mC m), vi (if b then 0 else 7)]) ∧ AF Tryd.prog XX 25 [vs s] (.tup [.agg (mC m), vo b]) ∧ m.f6.length ≤ 4 ∧ ∀ o ∈ m.f6, o.f5.length ≤ 200 := by
  have hf : Few 100000 (bytesOf s, false) := ⟨bytesOf_bytes s, by show (bytesOf s).length ≤ 100000; rw [bytesOf_length]; exact hs⟩
  have h1 := packTake (l := bytesOf s) ⟨hf.1, Nat.lt_of_le_of_lt hf.2 (by decide)⟩
  have h2 := refTakeM hf
  rw [rkM_eq hf] at h2
  rw [str_bytesOf] at h1 h2
  cases hr : rdM (bytesOf s, false) with
  | none =>
    rw [hr] at h1 h2
    exact ⟨m0, false, h1, h2, by decide, nofun⟩
  | some m =>
    rw [hr] at h1 h2
    have k := mayM_in (rdM_may hr)
    exact ⟨m, true, h1, h2, k.l, fun o ho => may_gone (k.o o ho)⟩
theorem msgsRest (Q : List ByteArray) (hQ : ∀ s ∈ Q, s.size ≤ 100000) (hl : Q.length ≤ 1000000) (h0 : Nat → Option Blk) :
    AW Tryd.prog XX 128 (sk 5 (bodyOf Tryd.f3)) ⟨L [.any, .any, .any, .isl 1 (Q.map sC)], HH (odds h0) []⟩ (retQ Tryd.prog Tryd.f3 0 (vo true) [] []) := by
  have hlq : (Q.map sC).length = Q.length := List.length_map ..
  repeat (first | refine ao_e rfl rfl rfl rfl rfl ?_ | refine ao_eff (v := V.val (Value.bool true)) (ups := []) rfl rfl rfl rfl ?_ | refine ao_eff (v := V.val (Value.bool false)) (ups := []) rfl rfl rfl rfl ?_ | refine aw_seq ?_ | refine aw_region ?_ | refine aw_block ?_ | refine ao_nil ⟨fun h => (Bool.false_ne_true h).elim, ?_⟩ | refine ao_nil ⟨fun _ => ⟨by kernel_rfl, by kernel_rfl⟩, ?_⟩ | refine ao_skip rfl rfl rfl ?_ | refine aw_true rfl ?_ | refine aw_false rfl ?_ | refine aw_skip ?_ | refine aw_exit ?_)
  refine aw_rounds (T := Nat) (fun j => j ≤ Q.length) (fun j => [.any, .any, .any, .isl 1 (Q.map sC), .any, .any, .any, .any, .any, .any, vi j]) (fun _ => []) (fun j => Q.length - j) 0 (Nat.zero_le _) ⟨.any _, .any _, .any _, .same _ rfl, .any _, .any _, .any _, .any _, .any _, .any _, .same _ rfl, trivial⟩ trivial ?_
  rintro j h1 hj
  by_cases hjl : j < Q.length
  · obtain ⟨m, b, t1, t2, t3, t4⟩ := take_msgs Q[j] (hQ _ (List.getElem_mem hjl))
    have hej : (Q.map sC)[Int.toNat (j : Int)]? = some [vs Q[j]] := by rw [Int.toNat_natCast, List.getElem?_map, List.getElem?_eq_getElem hjl]; rfl
    have e2 := eqMsg (X := XX) m m (by omega) (fun o ho => by have := t4 o ho; omega)
    rw [decide_eq_true rfl] at e2
    have eE := eatOps m.f6 (by omega) (fun o ho => by have := t4 o ho; omega)
    generalize Q[j] = s at *
    cases b
    all_goals
      repeat (first | refine ao_e rfl rfl rfl rfl rfl ?_ | refine ao_eff (v := V.val (Value.bool true)) (ups := []) rfl rfl rfl rfl ?_ | refine ao_eff (v := V.val (Value.bool false)) (ups := []) rfl rfl rfl rfl ?_ | refine aw_seq ?_ | refine aw_region ?_ | refine aw_block ?_ | refine ao_nil ⟨fun h => (Bool.false_ne_true h).elim, ?_⟩ | refine ao_nil ⟨fun _ => ⟨by kernel_rfl, by kernel_rfl⟩, ?_⟩ | refine ao_skip rfl rfl rfl ?_ | refine aw_true rfl ?_ | refine aw_false rfl ?_ | refine aw_skip ?_ | refine aw_exit ?_)
      refine ao_yes rfl rfl rfl rfl (by omega) ?_
      repeat (first | refine ao_e rfl rfl rfl rfl rfl ?_ | refine ao_eff (v := V.val (Value.bool true)) (ups := []) rfl rfl rfl rfl ?_ | refine ao_eff (v := V.val (Value.bool false)) (ups := []) rfl rfl rfl rfl ?_ | refine aw_seq ?_ | refine aw_region ?_ | refine aw_block ?_ | refine ao_nil ⟨fun h => (Bool.false_ne_true h).elim, ?_⟩ | refine ao_nil ⟨fun _ => ⟨by kernel_rfl, by kernel_rfl⟩, ?_⟩ | refine ao_skip rfl rfl rfl ?_ | refine aw_true rfl ?_ | refine aw_false rfl ?_ | refine aw_skip ?_ | refine aw_exit ?_ | refine ao_e rfl rfl rfl rfl (ef_ix rfl rfl (by omega) hej) ?_ | refine ao_new rfl rfl rfl rfl rfl rfl t1 rfl rfl ?_ | refine ao_fun rfl rfl rfl rfl rfl rfl t2 ?_ | refine ao_fun rfl rfl rfl rfl rfl rfl (lawNum _) ?_ | refine ao_peek rfl rfl rfl rfl rfl rfl e2 rfl rfl ?_ | refine ao_nstr rfl rfl rfl rfl (fun _ => ?_) (fun hb => absurd rfl hb) | refine ao_eatn rfl rfl rfl rfl rfl rfl rfl (by kernel_rfl) eE ?_)
      exact ⟨j + 1, hjl, by omega, ⟨.any _, .any _, .any _, .same _ rfl, .any _, .any _, .any _, .any _, .any _, .any _, rsucc j (by omega), trivial⟩, trivial⟩
  · repeat (first | refine ao_e rfl rfl rfl rfl rfl ?_ | refine ao_eff (v := V.val (Value.bool true)) (ups := []) rfl rfl rfl rfl ?_ | refine ao_eff (v := V.val (Value.bool false)) (ups := []) rfl rfl rfl rfl ?_ | refine aw_seq ?_ | refine aw_region ?_ | refine aw_block ?_ | refine ao_nil ⟨fun h => (Bool.false_ne_true h).elim, ?_⟩ | refine ao_nil ⟨fun _ => ⟨by kernel_rfl, by kernel_rfl⟩, ?_⟩ | refine ao_skip rfl rfl rfl ?_ | refine aw_true rfl ?_ | refine aw_false rfl ?_ | refine aw_skip ?_ | refine aw_exit ?_)
    refine ao_no rfl rfl rfl rfl (by omega) ?_
    repeat (first | refine ao_e rfl rfl rfl rfl rfl ?_ | refine ao_eff (v := V.val (Value.bool true)) (ups := []) rfl rfl rfl rfl ?_ | refine ao_eff (v := V.val (Value.bool false)) (ups := []) rfl rfl rfl rfl ?_ | refine aw_seq ?_ | refine aw_region ?_ | refine aw_block ?_ | refine ao_nil ⟨fun h => (Bool.false_ne_true h).elim, ?_⟩ | refine ao_nil ⟨fun _ => ⟨by kernel_rfl, by kernel_rfl⟩, ?_⟩ | refine ao_skip rfl rfl rfl ?_ | refine aw_true rfl ?_ | refine aw_false rfl ?_ | refine aw_skip ?_ | refine aw_exit ?_)
    refine ao_fun rfl rfl rfl rfl rfl rfl lawWakes ?_
    repeat (first | refine ao_e rfl rfl rfl rfl rfl ?_ | refine ao_eff (v := V.val (Value.bool true)) (ups := []) rfl rfl rfl rfl ?_ | refine ao_eff (v := V.val (Value.bool false)) (ups := []) rfl rfl rfl rfl ?_ | refine aw_seq ?_ | refine aw_region ?_ | refine aw_block ?_ | refine ao_nil ⟨fun h => (Bool.false_ne_true h).elim, ?_⟩ | refine ao_nil ⟨fun _ => ⟨by kernel_rfl, by kernel_rfl⟩, ?_⟩ | refine ao_skip rfl rfl rfl ?_ | refine aw_true rfl ?_ | refine aw_false rfl ?_ | refine aw_skip ?_ | refine aw_exit ?_)
    exact aw_ret ⟨.inr rfl, _, _, _, _, _, rfl, rfl, rfl, rfl, rfl, rfl⟩
theorem msgsLoop (p : A12) (lo1 : p.M.length ≤ 900) (lo2 : ∀ m ∈ p.M, m.f6.length ≤ 900 ∧ ∀ o ∈ m.f6, o.f4.size ≤ 4000 ∧ o.f5.length ≤ 900) (R : List ByteArray) (n : Nat) (hn : n ≤ R.length) (hn4 : n ≤ 4) (hR : ∀ s ∈ R, s.size ≤ 100000) (h0 : Nat → Option Blk) :
    AW Tryd.prog XX 128 (sk 4 (bodyOf Tryd.f3)) ⟨L [.any, .ptr (newId (siteOf 0 0) 0) 0 0 0, .any, .sl (newId (siteOf 3 2) 0) 0 0 n], HH (odds h0) [(newId (siteOf 0 0) 0, ⟨0, 5, true, true, [a12C p]⟩), (newId (siteOf 3 2) 0, ⟨0, 1, true, true, R.map sC⟩)]⟩ (retQ Tryd.prog Tryd.f3 0 (vo true) [] []) := by
  have hlO : (p.M.map mC).length = p.M.length := List.length_map ..
  repeat (first | refine ao_e rfl rfl rfl rfl rfl ?_ | refine ao_eff (v := V.val (Value.bool true)) (ups := []) rfl rfl rfl rfl ?_ | refine ao_eff (v := V.val (Value.bool false)) (ups := []) rfl rfl rfl rfl ?_ | refine aw_seq ?_ | refine aw_region ?_ | refine aw_block ?_ | refine ao_nil ⟨fun h => (Bool.false_ne_true h).elim, ?_⟩ | refine ao_nil ⟨fun _ => ⟨by kernel_rfl, by kernel_rfl⟩, ?_⟩ | refine ao_skip rfl rfl rfl ?_ | refine aw_true rfl ?_ | refine aw_false rfl ?_ | refine aw_skip ?_ | refine aw_exit ?_)
  refine aw_rounds (T := Nat × Bool × List ByteArray × Nat) (fun t => t.1 ≤ 8 ∧ t.1 ≤ p.M.length ∧ t.2.2.2 ≤ t.2.2.1.length ∧ t.2.2.2 ≤ 4 + 31 * t.1 ∧ ∀ s ∈ t.2.2.1, s.size ≤ 100000) (fun t => [.any, .ptr (newId (siteOf 0 0) 0) 0 0 0, .any, .sl (opN t.2.1) 0 0 t.2.2.2, vi t.1]) (fun t => [(newId (siteOf 0 0) 0, ⟨0, 5, true, true, [a12C p]⟩), (opN t.2.1, ⟨0, 1, true, true, t.2.2.1.map sC⟩)]) (fun t => 8 - t.1) (0, false, R, n) ⟨Nat.zero_le _, Nat.zero_le _, hn, by simpa using hn4, hR⟩
    ⟨.any _, .ptr _ _ _ _ _ _ _ rfl rfl rfl rfl, .any _, .sl _ _ _ _ _ _ _ rfl rfl rfl rfl, .same _ rfl, trivial⟩ ⟨renB_cl rfl rfl rfl rfl rfl rfl, renB_cl rfl rfl rfl rfl (opev _ _) rfl, trivial⟩ ?_
  clear hn hn4 hR
  rintro ⟨i, c, R, n⟩ h1 ⟨hi8, hi, hn, hn4, hR⟩
  dsimp only at hi8 hi hn hn4 hR ⊢
  by_cases hlt : i < p.M.length ∧ i < 8
  · obtain ⟨hlt, hl8⟩ := hlt
    have hei : (p.M.map mC)[Int.toNat (i : Int)]? = some (mC p.M[i]) := by rw [Int.toNat_natCast, List.getElem?_map, List.getElem?_eq_getElem hlt]; rfl
    obtain ⟨hs4, hg9⟩ := lo2 _ (List.getElem_mem hlt)
    generalize p.M[i] = m at *
    have hcp := copyMsg (X := XX) m (by omega) (fun o ho => by have := (hg9 o ho).2; omega)
    have h1 := packBytes m (fun o ho => ⟨by have := (hg9 o ho).1; omega, by have := (hg9 o ho).2; omega⟩) (by omega)
    have h4 := packCheck m (fun o ho => ⟨by have := (hg9 o ho).1; omega, by have := (hg9 o ho).2; omega⟩) (by omega)
    have h3 := refMsg m (fun o ho => ⟨by have := (hg9 o ho).1; omega, by have := (hg9 o ho).2; omega⟩) (by omega)
    have e2 := eqMsg (X := XX) m m (by omega) (fun o ho => by have := (hg9 o ho).2; omega)
    rw [decide_eq_true rfl] at e2
    cases hm : mayM m with
    | false =>
      rw [hm] at h1 h3 h4
      cases c
      all_goals
        repeat (first | refine ao_e rfl rfl rfl rfl rfl ?_ | refine ao_eff (v := V.val (Value.bool true)) (ups := []) rfl rfl rfl rfl ?_ | refine ao_eff (v := V.val (Value.bool false)) (ups := []) rfl rfl rfl rfl ?_ | refine aw_seq ?_ | refine aw_region ?_ | refine aw_block ?_ | refine ao_nil ⟨fun h => (Bool.false_ne_true h).elim, ?_⟩ | refine ao_nil ⟨fun _ => ⟨by kernel_rfl, by kernel_rfl⟩, ?_⟩ | refine ao_skip rfl rfl rfl ?_ | refine aw_true rfl ?_ | refine aw_false rfl ?_ | refine aw_skip ?_ | refine aw_exit ?_)
        refine ao_yes rfl rfl rfl rfl (by omega) ?_
        repeat (first | refine ao_e rfl rfl rfl rfl rfl ?_ | refine ao_eff (v := V.val (Value.bool true)) (ups := []) rfl rfl rfl rfl ?_ | refine ao_eff (v := V.val (Value.bool false)) (ups := []) rfl rfl rfl rfl ?_ | refine aw_seq ?_ | refine aw_region ?_ | refine aw_block ?_ | refine ao_nil ⟨fun h => (Bool.false_ne_true h).elim, ?_⟩ | refine ao_nil ⟨fun _ => ⟨by kernel_rfl, by kernel_rfl⟩, ?_⟩ | refine ao_skip rfl rfl rfl ?_ | refine aw_true rfl ?_ | refine aw_false rfl ?_ | refine aw_skip ?_ | refine aw_exit ?_)
        refine ao_yes rfl rfl rfl rfl (by omega) ?_
        repeat (first | refine ao_e rfl rfl rfl rfl rfl ?_ | refine ao_eff (v := V.val (Value.bool true)) (ups := []) rfl rfl rfl rfl ?_ | refine ao_eff (v := V.val (Value.bool false)) (ups := []) rfl rfl rfl rfl ?_ | refine aw_seq ?_ | refine aw_region ?_ | refine aw_block ?_ | refine ao_nil ⟨fun h => (Bool.false_ne_true h).elim, ?_⟩ | refine ao_nil ⟨fun _ => ⟨by kernel_rfl, by kernel_rfl⟩, ?_⟩ | refine ao_skip rfl rfl rfl ?_ | refine aw_true rfl ?_ | refine aw_false rfl ?_ | refine aw_skip ?_ | refine aw_exit ?_ | refine ao_e rfl rfl rfl rfl (ef_ix rfl rfl (by omega) hei) ?_ | refine ao_fun rfl rfl rfl rfl rfl rfl hcp ?_ | refine ao_fun rfl rfl rfl rfl rfl rfl h1 ?_ | refine ao_fun rfl rfl rfl rfl rfl rfl h3 ?_ | refine ao_fun rfl rfl rfl rfl rfl rfl h4 ?_ | refine ao_fun rfl rfl rfl rfl rfl rfl (lawNum _) ?_ | refine ao_fun rfl rfl rfl rfl rfl rfl e2 ?_ | refine ao_nstr rfl rfl rfl rfl (fun _ => ?_) (fun hb => absurd rfl hb))
      · exact ⟨(i + 1, false, R, n), ⟨by dsimp only; omega, hlt, hn, by dsimp only; omega, hR⟩, by dsimp only; omega, ⟨.any _, .ptr _ _ _ _ _ _ _ rfl rfl rfl rfl, .any _, .sl _ _ _ _ _ _ _ rfl rfl rfl rfl, rsucc i (by omega), trivial⟩, ⟨renB_cl rfl rfl rfl rfl rfl rfl, renB_cl rfl rfl rfl rfl (opev _ _) rfl, trivial⟩⟩
      · exact ⟨(i + 1, true, R, n), ⟨by dsimp only; omega, hlt, hn, by dsimp only; omega, hR⟩, by dsimp only; omega, ⟨.any _, .ptr _ _ _ _ _ _ _ rfl rfl rfl rfl, .any _, .sl _ _ _ _ _ _ _ rfl rfl rfl rfl, rsucc i (by omega), trivial⟩, ⟨renB_cl rfl rfl rfl rfl rfl rfl, renB_cl rfl rfl rfl rfl (opev _ _) rfl, trivial⟩⟩
    | true =>
      rw [hm] at h1 h3 h4
      have h2 := refBytes hm
      have hB := msgB_bytes m
      have hLl := msgB_len hm
      have hch := lawChanged (X := XX) (msgB m) hB (by omega) i (by omega)
      obtain ⟨C, hC⟩ : ∃ C, chgs (msgB m) i (if (msgB m).length = 0 then 0 else 14) = C := ⟨_, rfl⟩
      have hCl : C.length ≤ 31 := by rw [← hC, chgs_len]; split <;> omega
      have hCb : ∀ t ∈ C, t.length ≤ 20001 := by
        intro t ht
        rw [← hC] at ht
        have := (chgs_ok hB i _ t ht).2
        omega
      rw [hC] at hch
      clear hC
      generalize msgB m = L at *
      have hR2 : ∀ s ∈ R.take n ++ C.map strOfNums, s.size ≤ 100000 := by
        intro s hs
        rcases List.mem_append.1 hs with hs | hs
        · exact hR s (List.mem_of_mem_take hs)
        · obtain ⟨t, ht, rfl⟩ := List.mem_map.1 hs
          rw [strOfNums_size]
          have := hCb t ht
          omega
      have hes : (R.map sC).take n ++ C.map lC = (R.take n ++ C.map strOfNums).map sC := by rw [List.map_append, List.map_take, List.map_map]; rfl
      have hll : n + C.length ≤ (R.take n ++ C.map strOfNums).length := by rw [List.length_append, List.length_take, List.length_map]; omega
      have hln : n ≤ (R.map sC).length := by rw [List.length_map]; exact hn
      have hlc : (C.map lC).length = C.length := List.length_map ..
      cases c
      all_goals
        repeat (first | refine ao_e rfl rfl rfl rfl rfl ?_ | refine ao_eff (v := V.val (Value.bool true)) (ups := []) rfl rfl rfl rfl ?_ | refine ao_eff (v := V.val (Value.bool false)) (ups := []) rfl rfl rfl rfl ?_ | refine aw_seq ?_ | refine aw_region ?_ | refine aw_block ?_ | refine ao_nil ⟨fun h => (Bool.false_ne_true h).elim, ?_⟩ | refine ao_nil ⟨fun _ => ⟨by kernel_rfl, by kernel_rfl⟩, ?_⟩ | refine ao_skip rfl rfl rfl ?_ | refine aw_true rfl ?_ | refine aw_false rfl ?_ | refine aw_skip ?_ | refine aw_exit ?_)
        refine ao_yes rfl rfl rfl rfl (by omega) ?_
        repeat (first | refine ao_e rfl rfl rfl rfl rfl ?_ | refine ao_eff (v := V.val (Value.bool true)) (ups := []) rfl rfl rfl rfl ?_ | refine ao_eff (v := V.val (Value.bool false)) (ups := []) rfl rfl rfl rfl ?_ | refine aw_seq ?_ | refine aw_region ?_ | refine aw_block ?_ | refine ao_nil ⟨fun h => (Bool.false_ne_true h).elim, ?_⟩ | refine ao_nil ⟨fun _ => ⟨by kernel_rfl, by kernel_rfl⟩, ?_⟩ | refine ao_skip rfl rfl rfl ?_ | refine aw_true rfl ?_ | refine aw_false rfl ?_ | refine aw_skip ?_ | refine aw_exit ?_)
        refine ao_yes rfl rfl rfl rfl (by omega) ?_
        repeat (first | refine ao_e rfl rfl rfl rfl rfl ?_ | refine ao_eff (v := V.val (Value.bool true)) (ups := []) rfl rfl rfl rfl ?_ | refine ao_eff (v := V.val (Value.bool false)) (ups := []) rfl rfl rfl rfl ?_ | refine aw_seq ?_ | refine aw_region ?_ | refine aw_block ?_ | refine ao_nil ⟨fun h => (Bool.false_ne_true h).elim, ?_⟩ | refine ao_nil ⟨fun _ => ⟨by kernel_rfl, by kernel_rfl⟩, ?_⟩ | refine ao_skip rfl rfl rfl ?_ | refine aw_true rfl ?_ | refine aw_false rfl ?_ | refine aw_skip ?_ | refine aw_exit ?_ | refine ao_e rfl rfl rfl rfl (ef_ix rfl rfl (by omega) hei) ?_ | refine ao_fun rfl rfl rfl rfl rfl rfl hcp ?_ | refine ao_fun rfl rfl rfl rfl rfl rfl h1 ?_ | refine ao_fun rfl rfl rfl rfl rfl rfl h3 ?_ | refine ao_fun rfl rfl rfl rfl rfl rfl h4 ?_ | refine ao_fun rfl rfl rfl rfl rfl rfl (lawNum _) ?_ | refine ao_fun rfl rfl rfl rfl rfl rfl e2 ?_ | refine ao_nstr rfl rfl rfl rfl (fun _ => ?_) (fun hb => absurd rfl hb) | refine ao_fun rfl rfl rfl rfl rfl rfl h2 ?_ | refine ao_fun rfl rfl rfl rfl rfl rfl hch ?_ | refine ao_e rfl rfl rfl rfl (ef_append (by_ := 16) (len' := n + C.length) rfl rfl rfl rfl rfl rfl rfl hln (by rw [hlc]; omega) hes (by rw [hlc])) ?_)
        exact ⟨(i + 1, true, R.take n ++ C.map strOfNums, n + C.length), ⟨by dsimp only; omega, hlt, hll, by dsimp only; omega, hR2⟩, by dsimp only; omega, ⟨.any _, .ptr _ _ _ _ _ _ _ rfl rfl rfl rfl, .any _, .sl _ _ _ _ _ _ _ rfl rfl rfl rfl, rsucc i (by omega), trivial⟩, ⟨renB_cl rfl rfl rfl rfl rfl rfl, renB_cl rfl rfl rfl rfl (opev _ _) rfl, trivial⟩⟩
  · have hQ : ∀ s ∈ R.take n, s.size ≤ 100000 := fun s hs => hR s (List.mem_of_mem_take hs)
    have hQl : (R.take n).length ≤ 1000000 := by rw [List.length_take]; omega
    have hrest := fun h0 => msgsRest (R.take n) hQ hQl h0
    by_cases hlt1 : i < p.M.length
    · cases c
      all_goals
        repeat (first | refine ao_e rfl rfl rfl rfl rfl ?_ | refine ao_eff (v := V.val (Value.bool true)) (ups := []) rfl rfl rfl rfl ?_ | refine ao_eff (v := V.val (Value.bool false)) (ups := []) rfl rfl rfl rfl ?_ | refine aw_seq ?_ | refine aw_region ?_ | refine aw_block ?_ | refine ao_nil ⟨fun h => (Bool.false_ne_true h).elim, ?_⟩ | refine ao_nil ⟨fun _ => ⟨by kernel_rfl, by kernel_rfl⟩, ?_⟩ | refine ao_skip rfl rfl rfl ?_ | refine aw_true rfl ?_ | refine aw_false rfl ?_ | refine aw_skip ?_ | refine aw_exit ?_)
        refine ao_yes rfl rfl rfl rfl (by omega) ?_
        repeat (first | refine ao_e rfl rfl rfl rfl rfl ?_ | refine ao_eff (v := V.val (Value.bool true)) (ups := []) rfl rfl rfl rfl ?_ | refine ao_eff (v := V.val (Value.bool false)) (ups := []) rfl rfl rfl rfl ?_ | refine aw_seq ?_ | refine aw_region ?_ | refine aw_block ?_ | refine ao_nil ⟨fun h => (Bool.false_ne_true h).elim, ?_⟩ | refine ao_nil ⟨fun _ => ⟨by kernel_rfl, by kernel_rfl⟩, ?_⟩ | refine ao_skip rfl rfl rfl ?_ | refine aw_true rfl ?_ | refine aw_false rfl ?_ | refine aw_skip ?_ | refine aw_exit ?_)
        refine ao_no rfl rfl rfl rfl (by omega) ?_
        repeat (first | exact aw_hand [.any, .any, .any, .isl 1 ((R.take n).map sC)] [] hrest ⟨.any _, .any _, .any _, ren_frzT sC R _ rfl rfl rfl hn rfl rfl rfl, trivial⟩ trivial | refine ao_e rfl rfl rfl rfl rfl ?_ | refine ao_eff (v := V.val (Value.bool true)) (ups := []) rfl rfl rfl rfl ?_ | refine ao_eff (v := V.val (Value.bool false)) (ups := []) rfl rfl rfl rfl ?_ | refine aw_seq ?_ | refine aw_region ?_ | refine aw_block ?_ | refine ao_nil ⟨fun h => (Bool.false_ne_true h).elim, ?_⟩ | refine ao_nil ⟨fun _ => ⟨by kernel_rfl, by kernel_rfl⟩, ?_⟩ | refine ao_skip rfl rfl rfl ?_ | refine aw_true rfl ?_ | refine aw_false rfl ?_ | refine aw_skip ?_ | refine aw_exit ?_)
    · cases c
      all_goals
        repeat (first | refine ao_e rfl rfl rfl rfl rfl ?_ | refine ao_eff (v := V.val (Value.bool true)) (ups := []) rfl rfl rfl rfl ?_ | refine ao_eff (v := V.val (Value.bool false)) (ups := []) rfl rfl rfl rfl ?_ | refine aw_seq ?_ | refine aw_region ?_ | refine aw_block ?_ | refine ao_nil ⟨fun h => (Bool.false_ne_true h).elim, ?_⟩ | refine ao_nil ⟨fun _ => ⟨by kernel_rfl, by kernel_rfl⟩, ?_⟩ | refine ao_skip rfl rfl rfl ?_ | refine aw_true rfl ?_ | refine aw_false rfl ?_ | refine aw_skip ?_ | refine aw_exit ?_)
        refine ao_no rfl rfl rfl rfl (by omega) ?_
        repeat (first | exact aw_hand [.any, .any, .any, .isl 1 ((R.take n).map sC)] [] hrest ⟨.any _, .any _, .any _, ren_frzT sC R _ rfl rfl rfl hn rfl rfl rfl, trivial⟩ trivial | refine ao_e rfl rfl rfl rfl rfl ?_ | refine ao_eff (v := V.val (Value.bool true)) (ups := []) rfl rfl rfl rfl ?_ | refine ao_eff (v := V.val (Value.bool false)) (ups := []) rfl rfl rfl rfl ?_ | refine aw_seq ?_ | refine aw_region ?_ | refine aw_block ?_ | refine ao_nil ⟨fun h => (Bool.false_ne_true h).elim, ?_⟩ | refine ao_nil ⟨fun _ => ⟨by kernel_rfl, by kernel_rfl⟩, ?_⟩ | refine ao_skip rfl rfl rfl ?_ | refine aw_true rfl ?_ | refine aw_false rfl ?_ | refine aw_skip ?_ | refine aw_exit ?_)
theorem lawPackMsgs (p : A12) (hg : G12 p) : AF Tryd.prog XX 3 [.agg (a12C p)] (vo true) := by
  have hH := lawHeavy12 (X := XX) p hg
  refine ac_mk (by kernel_rfl) Tryd.func3 rfl (lb rfl) rfl rfl ?_
  cases hh : heavy12 p with
  | true =>
    rw [hh] at hH
    repeat (first | refine ao_e rfl rfl rfl rfl rfl ?_ | refine ao_eff (v := V.val (Value.bool true)) (ups := []) rfl rfl rfl rfl ?_ | refine ao_eff (v := V.val (Value.bool false)) (ups := []) rfl rfl rfl rfl ?_ | refine aw_seq ?_ | refine aw_region ?_ | refine aw_block ?_ | refine ao_nil ⟨fun h => (Bool.false_ne_true h).elim, ?_⟩ | refine ao_nil ⟨fun _ => ⟨by kernel_rfl, by kernel_rfl⟩, ?_⟩ | refine ao_skip rfl rfl rfl ?_ | refine aw_true rfl ?_ | refine aw_false rfl ?_ | refine aw_skip ?_ | refine aw_exit ?_)
    refine ao_fun rfl rfl rfl rfl rfl rfl hH ?_
    repeat (first | refine ao_e rfl rfl rfl rfl rfl ?_ | refine ao_eff (v := V.val (Value.bool true)) (ups := []) rfl rfl rfl rfl ?_ | refine ao_eff (v := V.val (Value.bool false)) (ups := []) rfl rfl rfl rfl ?_ | refine aw_seq ?_ | refine aw_region ?_ | refine aw_block ?_ | refine ao_nil ⟨fun h => (Bool.false_ne_true h).elim, ?_⟩ | refine ao_nil ⟨fun _ => ⟨by kernel_rfl, by kernel_rfl⟩, ?_⟩ | refine ao_skip rfl rfl rfl ?_ | refine aw_true rfl ?_ | refine aw_false rfl ?_ | refine aw_skip ?_ | refine aw_exit ?_)
    exact aw_ret ⟨.inr rfl, _, _, _, _, _, rfl, rfl, rfl, rfl, rfl, rfl⟩
  | false =>
    rw [hh] at hH
    obtain ⟨_, ⟨lo1, lo2⟩, ls1, ls2⟩ := light hh
    have hC := copyStrsOut (X := XX) p.S (by omega)
    have hlS : (p.S.map sC).length = p.S.length := List.length_map ..
    have hR : ∀ s ∈ p.S, s.size ≤ 100000 := fun s hs => by have := ls2 s hs; omega
    repeat (first | refine ao_e rfl rfl rfl rfl rfl ?_ | refine ao_eff (v := V.val (Value.bool true)) (ups := []) rfl rfl rfl rfl ?_ | refine ao_eff (v := V.val (Value.bool false)) (ups := []) rfl rfl rfl rfl ?_ | refine aw_seq ?_ | refine aw_region ?_ | refine aw_block ?_ | refine ao_nil ⟨fun h => (Bool.false_ne_true h).elim, ?_⟩ | refine ao_nil ⟨fun _ => ⟨by kernel_rfl, by kernel_rfl⟩, ?_⟩ | refine ao_skip rfl rfl rfl ?_ | refine aw_true rfl ?_ | refine aw_false rfl ?_ | refine aw_skip ?_ | refine aw_exit ?_)
    refine ao_fun rfl rfl rfl rfl rfl rfl hH ?_
    repeat (first | refine ao_e rfl rfl rfl rfl rfl ?_ | refine ao_eff (v := V.val (Value.bool true)) (ups := []) rfl rfl rfl rfl ?_ | refine ao_eff (v := V.val (Value.bool false)) (ups := []) rfl rfl rfl rfl ?_ | refine aw_seq ?_ | refine aw_region ?_ | refine aw_block ?_ | refine ao_nil ⟨fun h => (Bool.false_ne_true h).elim, ?_⟩ | refine ao_nil ⟨fun _ => ⟨by kernel_rfl, by kernel_rfl⟩, ?_⟩ | refine ao_skip rfl rfl rfl ?_ | refine aw_true rfl ?_ | refine aw_false rfl ?_ | refine aw_skip ?_ | refine aw_exit ?_)
    refine ao_out rfl rfl rfl rfl rfl rfl hC ?_
    repeat (first | refine ao_e rfl rfl rfl rfl rfl ?_ | refine ao_eff (v := V.val (Value.bool true)) (ups := []) rfl rfl rfl rfl ?_ | refine ao_eff (v := V.val (Value.bool false)) (ups := []) rfl rfl rfl rfl ?_ | refine aw_seq ?_ | refine aw_region ?_ | refine aw_block ?_ | refine ao_nil ⟨fun h => (Bool.false_ne_true h).elim, ?_⟩ | refine ao_nil ⟨fun _ => ⟨by kernel_rfl, by kernel_rfl⟩, ?_⟩ | refine ao_skip rfl rfl rfl ?_ | refine aw_true rfl ?_ | refine aw_false rfl ?_ | refine aw_skip ?_ | refine aw_exit ?_)
    by_cases h4 : 4 < p.S.length
    · refine ao_yes rfl rfl rfl rfl (by omega) ?_
      repeat (first | exact aw_hand _ _ (fun h0 => msgsLoop p lo1 lo2 p.S 4 (by omega) (by omega) hR h0) ⟨.any _, .ptr _ _ _ _ _ _ _ rfl rfl rfl rfl, .any _, .sl _ _ _ _ _ _ _ rfl rfl rfl rfl, trivial⟩ ⟨renB_cl rfl rfl rfl rfl rfl rfl, renB_cl rfl rfl rfl rfl rfl rfl, trivial⟩ | refine ao_e rfl rfl rfl rfl rfl ?_ | refine ao_eff (v := V.val (Value.bool true)) (ups := []) rfl rfl rfl rfl ?_ | refine ao_eff (v := V.val (Value.bool false)) (ups := []) rfl rfl rfl rfl ?_ | refine aw_seq ?_ | refine aw_region ?_ | refine aw_block ?_ | refine ao_nil ⟨fun h => (Bool.false_ne_true h).elim, ?_⟩ | refine ao_nil ⟨fun _ => ⟨by kernel_rfl, by kernel_rfl⟩, ?_⟩ | refine ao_skip rfl rfl rfl ?_ | refine aw_true rfl ?_ | refine aw_false rfl ?_ | refine aw_skip ?_ | refine aw_exit ?_ | refine ao_e rfl rfl rfl rfl (ef_cut (n := 4) rfl rfl rfl rfl (by decide) (by omega)) ?_)
    · refine ao_no rfl rfl rfl rfl (by omega) ?_
      repeat (first | exact aw_hand _ _ (fun h0 => msgsLoop p lo1 lo2 p.S p.S.length (Nat.le_refl _) (by omega) hR h0) ⟨.any _, .ptr _ _ _ _ _ _ _ rfl rfl rfl rfl, .any _, .sl _ _ _ _ _ _ _ rfl rfl rfl rfl, trivial⟩ ⟨renB_cl rfl rfl rfl rfl rfl rfl, renB_cl rfl rfl rfl rfl rfl rfl, trivial⟩ | refine ao_e rfl rfl rfl rfl rfl ?_ | refine ao_eff (v := V.val (Value.bool true)) (ups := []) rfl rfl rfl rfl ?_ | refine ao_eff (v := V.val (Value.bool false)) (ups := []) rfl rfl rfl rfl ?_ | refine aw_seq ?_ | refine aw_region ?_ | refine aw_block ?_ | refine ao_nil ⟨fun h => (Bool.false_ne_true h).elim, ?_⟩ | refine ao_nil ⟨fun _ => ⟨by kernel_rfl, by kernel_rfl⟩, ?_⟩ | refine ao_skip rfl rfl rfl ?_ | refine aw_true rfl ?_ | refine aw_false rfl ?_ | refine aw_skip ?_ | refine aw_exit ?_)
end Go.Ai
