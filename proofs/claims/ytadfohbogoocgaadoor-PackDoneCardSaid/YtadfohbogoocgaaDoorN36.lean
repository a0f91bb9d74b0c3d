/- A part of the proof: what the program does, step by step, over values without addresses. No conditions of mine. -/
import Derived.Test.YtadfohbogoocgaaDoorN35
set_option linter.unusedVariables false
set_option linter.unusedSimpArgs false
namespace Go.Ai
open Go Go.RowKit Go.Proofs Go.Sp
set_option maxRecDepth 10000
set_option maxHeartbeats 8000000
set_option linter.unusedVariables false
set_option linter.unusedSimpArgs false
theorem kindIf4 (K : Int) (ls : List O) (hls : Ls ls) (n : Nat) (hn : n < 40) (a b c d e f : Int) (y : O) (l : List O) (hy : ∀ o ∈ y :: l, o ∈ ls) (hl : (y :: l).length ≤ 10) (h0 : Nat → Option Blk) : AW Tryd.prog XX 231 (fstC (sk 2 kindB)) ⟨L [.any, vi K, .any, .any, .any, .isl 11 (ls.map oC), .any, vi (n : Nat), .ptr (newId (siteOf 11 2) 0) 0 0 0], HH (odds h0) [(newId (siteOf 11 2) 0, ⟨0, 7, true, false, [[vi a, vi b, vi c, vi d, vi e, vi f, .sl (newId (siteOf 21 11) 0) 0 0 (y :: l).length]]⟩), (newId (siteOf 21 11) 0, ⟨0, 11, true, true, (y :: l).map oC⟩)]⟩ (HasM K ls n) := by
  obtain ⟨x0, hx0, hei⟩ : ∃ x0, x0 ∈ ls ∧ (ls.map oC)[Int.toNat 0]? = some (oC x0) := ⟨ls[0]'(by have := hls.a; omega), List.getElem_mem _, by rw [List.getElem?_map, List.getElem?_eq_getElem]; rfl⟩
  have h1 : ∀ o ∈ (y :: l) ++ [x0], o ∈ ls := by
    intro o ho
    rcases List.mem_append.1 ho with ho | ho
    · exact hy o ho
    · simp at ho; subst ho; exact hx0
  repeat' (first | refine ao_e rfl rfl rfl rfl rfl ?_ | refine ao_eff (v := V.val (Value.bool true)) (ups := []) rfl rfl rfl rfl ?_ | refine ao_eff (v := V.val (Value.bool false)) (ups := []) rfl rfl rfl rfl ?_ | refine aw_seq ?_ | refine aw_region ?_ | refine aw_block ?_ | refine ao_nil ⟨fun h => (Bool.false_ne_true h).elim, ?_⟩ | refine ao_nil ⟨fun _ => ⟨by kernel_rfl, by kernel_rfl⟩, ?_⟩ | refine ao_skip rfl rfl rfl ?_ | refine aw_true rfl ?_ | refine aw_false rfl ?_ | refine aw_skip ?_ | refine aw_exit ?_ | refine ao_e rfl rfl rfl rfl (ef_ix rfl rfl (by decide) hei) ?_ | refine ao_e rfl rfl rfl rfl (ef_push oC (y :: l) x0 112 rfl rfl rfl rfl rfl rfl rfl rfl rfl (by omega)) ?_ | refine ao_dec rfl rfl rfl (eqE _ _ _ _ _ _).1 (fun hb => ?_) (fun hb => ?_) | refine ao_ndec rfl rfl rfl (eqE _ _ _ _ _ _).2 (fun hb => ?_) (fun hb => ?_) | refine ao_dec rfl rfl rfl rfl (fun hb => ?_) (fun hb => ?_) | refine ao_ndec rfl rfl rfl rfl (fun hb => ?_) (fun hb => ?_) | refine ao_str rfl rfl rfl rfl (fun hb => ?_) (fun hb => ?_) | refine ao_nstr rfl rfl rfl rfl (fun hb => ?_) (fun hb => ?_) | refine ao_bool rfl rfl rfl rfl (fun hb => ?_) (fun hb => ?_))
  all_goals first
    | exact ⟨rfl, ⟨_, _, _, _, _, _, y :: l⟩, hy, Nat.le_trans hl (by decide), ⟨.any _, .same _ rfl, .any _, .any _, .any _, .same _ rfl, .any _, .same _ rfl, .ptr _ _ _ _ _ _ _ rfl rfl rfl rfl, trivial⟩, ⟨renB_row rfl rfl rfl rfl rfl rfl rfl ⟨nofun, .same _ rfl, nofun, .same _ rfl, nofun, .same _ rfl, nofun, .same _ rfl, nofun, .same _ rfl, nofun, .same _ rfl, nofun, ren_frz oC (y :: l) rfl rfl rfl rfl rfl rfl, trivial⟩, trivial⟩⟩
    | exact ⟨rfl, ⟨_, _, _, _, _, _, (y :: l) ++ [x0]⟩, h1, by show List.length ((y :: l) ++ [x0]) ≤ _; rw [List.length_append]; simp only [List.length_singleton]; omega, ⟨.any _, .same _ rfl, .any _, .any _, .any _, .same _ rfl, .any _, .same _ rfl, .ptr _ _ _ _ _ _ _ rfl rfl rfl rfl, trivial⟩, ⟨renB_row rfl rfl rfl rfl rfl rfl rfl ⟨nofun, .same _ rfl, nofun, .same _ rfl, nofun, .same _ rfl, nofun, .same _ rfl, nofun, .same _ rfl, nofun, .same _ rfl, nofun, ren_frz oC ((y :: l) ++ [x0]) rfl rfl rfl rfl rfl rfl, trivial⟩, trivial⟩⟩
/-- What a switch with ops leaves. -/
def HasS4 (K : Int) (ls : List O) (n : Nat) : Ex → St → Prop := fun x σ' => x = .normal ∧ ∃ (a b c d e f : Int) (y : O) (l : List O), (∀ o ∈ y :: l, o ∈ ls) ∧ (y :: l).length ≤ 10 ∧ renL σ'.h [(newId (siteOf 11 2) 0, ⟨0, 7, true, false, [[vi a, vi b, vi c, vi d, vi e, vi f, .sl (newId (siteOf 21 11) 0) 0 0 (y :: l).length]]⟩), (newId (siteOf 21 11) 0, ⟨0, 11, true, true, (y :: l).map oC⟩)] [.any, vi K, .any, .any, .any, .isl 11 (ls.map oC), .any, vi (n : Nat), .ptr (newId (siteOf 11 2) 0) 0 0 0] σ'.s 0 ∧ renH σ'.h [(newId (siteOf 11 2) 0, ⟨0, 7, true, false, [[vi a, vi b, vi c, vi d, vi e, vi f, .sl (newId (siteOf 21 11) 0) 0 0 (y :: l).length]]⟩), (newId (siteOf 21 11) 0, ⟨0, 11, true, true, (y :: l).map oC⟩)] [(newId (siteOf 11 2) 0, ⟨0, 7, true, false, [[vi a, vi b, vi c, vi d, vi e, vi f, .sl (newId (siteOf 21 11) 0) 0 0 (y :: l).length]]⟩), (newId (siteOf 21 11) 0, ⟨0, 11, true, true, (y :: l).map oC⟩)]
theorem kindBody4 (K : Int) (ls : List O) (hls : Ls ls) (n : Nat) (hn : n < 40) (hsw : ∀ h0, AW Tryd.prog XX 231 (fstC (sk 1 kindB)) ⟨L [.any, vi K, .any, .any, .any, .isl 11 (ls.map oC), .any, vi (n : Nat), .ptr (newId (siteOf 11 2) 0) 0 0 0], HH (odds h0) [(newId (siteOf 11 2) 0, ⟨0, 7, true, true, [[vi K, vi 0, vi 0, vi 0, vi 0, vi 0, .emp]]⟩)]⟩ (fun x σ' => HasE K ls n x σ' ∨ HasS4 K ls n x σ')) (h0 : Nat → Option Blk) :
    AW Tryd.prog XX 231 kindB ⟨L [.any, vi K, .any, .any, .any, .isl 11 (ls.map oC), .any, vi (n : Nat)], HH (odds h0) []⟩ (fun x σ' => x = .normal ∧ renL σ'.h [] [.any, vi K, .any, .any, .any, .isl 11 (ls.map oC), .any, vi (n : Nat)] σ'.s 0) := by
  refine aw_seq ?_
  refine aw_region ?_
  iterate 4 refine ao_e rfl rfl rfl rfl rfl ?_
  refine ao_nil ⟨fun h => (Bool.false_ne_true h).elim, ?_⟩
  refine aw_seq ?_
  refine aw_canon [.any, vi K, .any, .any, .any, .isl 11 (ls.map oC), .any, vi (n : Nat), .ptr (newId (siteOf 11 2) 0) 0 0 0] [(newId (siteOf 11 2) 0, ⟨0, 7, true, true, [[vi K, vi 0, vi 0, vi 0, vi 0, vi 0, .emp]]⟩)] ⟨.any _, .same _ rfl, .any _, .any _, .any _, .same _ rfl, .any _, .same _ rfl, .ptr _ _ _ _ _ _ _ rfl rfl rfl rfl, trivial⟩ ⟨renB_row rfl rfl rfl rfl rfl rfl rfl ⟨nofun, .same _ rfl, nofun, .same _ rfl, nofun, .same _ rfl, nofun, .same _ rfl, nofun, .same _ rfl, nofun, .same _ rfl, nofun, .same _ rfl, trivial⟩, trivial⟩ (fun h0 => aw_mono (hsw h0) ?_)
  rintro x σ' (⟨rfl, a, b, c, d, e, f, r1, r2⟩ | ⟨rfl, a, b, c, d, e, f, y, l, k1, k2, r1, r2⟩)
  · refine aw_seq ?_
    refine aw_canon _ _ r1 r2 (fun h0 => aw_mono (kindIf K ls hls n hn a b c d e f h0) ?_)
    rintro x σ' ⟨rfl, m, q1, q2, r1, r2⟩
    refine aw_canon _ _ r1 r2 (fun h0 => kindTail K ls n (by omega) m (fun o ho => hls.o o (q1 o ho)) (by omega) h0)
  · refine aw_seq ?_
    refine aw_canon _ _ r1 r2 (fun h0 => aw_mono (kindIf4 K ls hls n hn a b c d e f y l k1 k2 h0) ?_)
    rintro x σ' ⟨rfl, m, q1, q2, r1, r2⟩
    refine aw_canon _ _ r1 r2 (fun h0 => kindTail K ls n (by omega) m (fun o ho => hls.o o (q1 o ho)) (by omega) h0)
theorem kindIf5 (K : Int) (ls : List O) (hls : Ls ls) (n : Nat) (hn : n < 40) (a b c d e f : Int) (y : O) (l : List O) (hy : ∀ o ∈ y :: l, o ∈ ls) (hl : (y :: l).length ≤ 10) (h0 : Nat → Option Blk) : AW Tryd.prog XX 231 (fstC (sk 2 kindB)) ⟨L [.any, vi K, .any, .any, .any, .isl 11 (ls.map oC), .any, vi (n : Nat), .ptr (newId (siteOf 11 2) 0) 0 0 0], HH (odds h0) [(newId (siteOf 11 2) 0, ⟨0, 7, true, false, [[vi a, vi b, vi c, vi d, vi e, vi f, .sl (newId (siteOf 27 12) 0) 0 0 (y :: l).length]]⟩), (newId (siteOf 27 12) 0, ⟨0, 11, true, true, (y :: l).map oC⟩)]⟩ (HasM K ls n) := by
  obtain ⟨x0, hx0, hei⟩ : ∃ x0, x0 ∈ ls ∧ (ls.map oC)[Int.toNat 0]? = some (oC x0) := ⟨ls[0]'(by have := hls.a; omega), List.getElem_mem _, by rw [List.getElem?_map, List.getElem?_eq_getElem]; rfl⟩
  have h1 : ∀ o ∈ (y :: l) ++ [x0], o ∈ ls := by
    intro o ho
    rcases List.mem_append.1 ho with ho | ho
    · exact hy o ho
    · simp at ho; subst ho; exact hx0
  repeat' (first | refine ao_e rfl rfl rfl rfl rfl ?_ | refine ao_eff (v := V.val (Value.bool true)) (ups := []) rfl rfl rfl rfl ?_ | refine ao_eff (v := V.val (Value.bool false)) (ups := []) rfl rfl rfl rfl ?_ | refine aw_seq ?_ | refine aw_region ?_ | refine aw_block ?_ | refine ao_nil ⟨fun h => (Bool.false_ne_true h).elim, ?_⟩ | refine ao_nil ⟨fun _ => ⟨by kernel_rfl, by kernel_rfl⟩, ?_⟩ | refine ao_skip rfl rfl rfl ?_ | refine aw_true rfl ?_ | refine aw_false rfl ?_ | refine aw_skip ?_ | refine aw_exit ?_ | refine ao_e rfl rfl rfl rfl (ef_ix rfl rfl (by decide) hei) ?_ | refine ao_e rfl rfl rfl rfl (ef_push oC (y :: l) x0 112 rfl rfl rfl rfl rfl rfl rfl rfl rfl (by omega)) ?_ | refine ao_dec rfl rfl rfl (eqE _ _ _ _ _ _).1 (fun hb => ?_) (fun hb => ?_) | refine ao_ndec rfl rfl rfl (eqE _ _ _ _ _ _).2 (fun hb => ?_) (fun hb => ?_) | refine ao_dec rfl rfl rfl rfl (fun hb => ?_) (fun hb => ?_) | refine ao_ndec rfl rfl rfl rfl (fun hb => ?_) (fun hb => ?_) | refine ao_str rfl rfl rfl rfl (fun hb => ?_) (fun hb => ?_) | refine ao_nstr rfl rfl rfl rfl (fun hb => ?_) (fun hb => ?_) | refine ao_bool rfl rfl rfl rfl (fun hb => ?_) (fun hb => ?_))
  all_goals first
    | exact ⟨rfl, ⟨_, _, _, _, _, _, y :: l⟩, hy, Nat.le_trans hl (by decide), ⟨.any _, .same _ rfl, .any _, .any _, .any _, .same _ rfl, .any _, .same _ rfl, .ptr _ _ _ _ _ _ _ rfl rfl rfl rfl, trivial⟩, ⟨renB_row rfl rfl rfl rfl rfl rfl rfl ⟨nofun, .same _ rfl, nofun, .same _ rfl, nofun, .same _ rfl, nofun, .same _ rfl, nofun, .same _ rfl, nofun, .same _ rfl, nofun, ren_frz oC (y :: l) rfl rfl rfl rfl rfl rfl, trivial⟩, trivial⟩⟩
    | exact ⟨rfl, ⟨_, _, _, _, _, _, (y :: l) ++ [x0]⟩, h1, by show List.length ((y :: l) ++ [x0]) ≤ _; rw [List.length_append]; simp only [List.length_singleton]; omega, ⟨.any _, .same _ rfl, .any _, .any _, .any _, .same _ rfl, .any _, .same _ rfl, .ptr _ _ _ _ _ _ _ rfl rfl rfl rfl, trivial⟩, ⟨renB_row rfl rfl rfl rfl rfl rfl rfl ⟨nofun, .same _ rfl, nofun, .same _ rfl, nofun, .same _ rfl, nofun, .same _ rfl, nofun, .same _ rfl, nofun, .same _ rfl, nofun, ren_frz oC ((y :: l) ++ [x0]) rfl rfl rfl rfl rfl rfl, trivial⟩, trivial⟩⟩
/-- What a switch with ops leaves. -/
def HasS5 (K : Int) (ls : List O) (n : Nat) : Ex → St → Prop := fun x σ' => x = .normal ∧ ∃ (a b c d e f : Int) (y : O) (l : List O), (∀ o ∈ y :: l, o ∈ ls) ∧ (y :: l).length ≤ 10 ∧ renL σ'.h [(newId (siteOf 11 2) 0, ⟨0, 7, true, false, [[vi a, vi b, vi c, vi d, vi e, vi f, .sl (newId (siteOf 27 12) 0) 0 0 (y :: l).length]]⟩), (newId (siteOf 27 12) 0, ⟨0, 11, true, true, (y :: l).map oC⟩)] [.any, vi K, .any, .any, .any, .isl 11 (ls.map oC), .any, vi (n : Nat), .ptr (newId (siteOf 11 2) 0) 0 0 0] σ'.s 0 ∧ renH σ'.h [(newId (siteOf 11 2) 0, ⟨0, 7, true, false, [[vi a, vi b, vi c, vi d, vi e, vi f, .sl (newId (siteOf 27 12) 0) 0 0 (y :: l).length]]⟩), (newId (siteOf 27 12) 0, ⟨0, 11, true, true, (y :: l).map oC⟩)] [(newId (siteOf 11 2) 0, ⟨0, 7, true, false, [[vi a, vi b, vi c, vi d, vi e, vi f, .sl (newId (siteOf 27 12) 0) 0 0 (y :: l).length]]⟩), (newId (siteOf 27 12) 0, ⟨0, 11, true, true, (y :: l).map oC⟩)]
theorem kindBody5 (K : Int) (ls : List O) (hls : Ls ls) (n : Nat) (hn : n < 40) (hsw : ∀ h0, AW Tryd.prog XX 231 (fstC (sk 1 kindB)) ⟨L [.any, vi K, .any, .any, .any, .isl 11 (ls.map oC), .any, vi (n : Nat), .ptr (newId (siteOf 11 2) 0) 0 0 0], HH (odds h0) [(newId (siteOf 11 2) 0, ⟨0, 7, true, true, [[vi K, vi 0, vi 0, vi 0, vi 0, vi 0, .emp]]⟩)]⟩ (fun x σ' => HasE K ls n x σ' ∨ HasS5 K ls n x σ')) (h0 : Nat → Option Blk) :
    AW Tryd.prog XX 231 kindB ⟨L [.any, vi K, .any, .any, .any, .isl 11 (ls.map oC), .any, vi (n : Nat)], HH (odds h0) []⟩ (fun x σ' => x = .normal ∧ renL σ'.h [] [.any, vi K, .any, .any, .any, .isl 11 (ls.map oC), .any, vi (n : Nat)] σ'.s 0) := by
  refine aw_seq ?_
  refine aw_region ?_
  iterate 4 refine ao_e rfl rfl rfl rfl rfl ?_
  refine ao_nil ⟨fun h => (Bool.false_ne_true h).elim, ?_⟩
  refine aw_seq ?_
  refine aw_canon [.any, vi K, .any, .any, .any, .isl 11 (ls.map oC), .any, vi (n : Nat), .ptr (newId (siteOf 11 2) 0) 0 0 0] [(newId (siteOf 11 2) 0, ⟨0, 7, true, true, [[vi K, vi 0, vi 0, vi 0, vi 0, vi 0, .emp]]⟩)] ⟨.any _, .same _ rfl, .any _, .any _, .any _, .same _ rfl, .any _, .same _ rfl, .ptr _ _ _ _ _ _ _ rfl rfl rfl rfl, trivial⟩ ⟨renB_row rfl rfl rfl rfl rfl rfl rfl ⟨nofun, .same _ rfl, nofun, .same _ rfl, nofun, .same _ rfl, nofun, .same _ rfl, nofun, .same _ rfl, nofun, .same _ rfl, nofun, .same _ rfl, trivial⟩, trivial⟩ (fun h0 => aw_mono (hsw h0) ?_)
  rintro x σ' (⟨rfl, a, b, c, d, e, f, r1, r2⟩ | ⟨rfl, a, b, c, d, e, f, y, l, k1, k2, r1, r2⟩)
  · refine aw_seq ?_
    refine aw_canon _ _ r1 r2 (fun h0 => aw_mono (kindIf K ls hls n hn a b c d e f h0) ?_)
    rintro x σ' ⟨rfl, m, q1, q2, r1, r2⟩
    refine aw_canon _ _ r1 r2 (fun h0 => kindTail K ls n (by omega) m (fun o ho => hls.o o (q1 o ho)) (by omega) h0)
  · refine aw_seq ?_
    refine aw_canon _ _ r1 r2 (fun h0 => aw_mono (kindIf5 K ls hls n hn a b c d e f y l k1 k2 h0) ?_)
    rintro x σ' ⟨rfl, m, q1, q2, r1, r2⟩
    refine aw_canon _ _ r1 r2 (fun h0 => kindTail K ls n (by omega) m (fun o ho => hls.o o (q1 o ho)) (by omega) h0)
theorem pickOf {ls : List O} (hls : Ls ls) (i : Nat) : ∃ x, x ∈ ls ∧ 0 ≤ Int.tmod (i : Int) (((ls.map oC).length : Nat) : Int) ∧ (((ls.map oC).length : Nat) : Int) ≠ 0 ∧ (ls.map oC)[Int.toNat (Int.tmod (i : Int) (((ls.map oC).length : Nat) : Int))]? = some (oC x) := by
  have hl : (ls.map oC).length = ls.length := List.length_map ..
  have ha := hls.a
  have hlt : i % ls.length < ls.length := Nat.mod_lt _ (by omega)
  have e : Int.tmod (i : Int) (((ls.map oC).length : Nat) : Int) = ((i % ls.length : Nat) : Int) := by
    rw [hl, Int.tmod_eq_emod_of_nonneg (by omega)]; rfl
  refine ⟨ls[i % ls.length], List.getElem_mem _, by rw [e]; omega, by rw [hl]; omega, ?_⟩
  rw [e, Int.toNat_natCast, List.getElem?_map, List.getElem?_eq_getElem hlt]; rfl
theorem kindSw4 (ls : List O) (hls : Ls ls) (n : Nat) (hn : n < 40) (h0 : Nat → Option Blk) : AW Tryd.prog XX 231 (fstC (sk 1 kindB)) ⟨L [.any, vi 4, .any, .any, .any, .isl 11 (ls.map oC), .any, vi (n : Nat), .ptr (newId (siteOf 11 2) 0) 0 0 0], HH (odds h0) [(newId (siteOf 11 2) 0, ⟨0, 7, true, true, [[vi 4, vi 0, vi 0, vi 0, vi 0, vi 0, .emp]]⟩)]⟩ (fun x σ' => HasE 4 ls n x σ' ∨ HasS4 4 ls n x σ') := by
  obtain ⟨x, hx, ht, hne, hei⟩ := pickOf hls n
  have h1 : ∀ o ∈ [x], o ∈ ls := by
    intro o ho; simp at ho; subst ho; exact hx
  repeat (first | refine ao_e rfl rfl rfl rfl (ef_rem hne) ?_ | refine ao_e rfl rfl rfl rfl (ef_ix rfl rfl ht hei) ?_ | refine ao_e rfl rfl rfl rfl rfl ?_ | refine ao_eff (v := V.val (Value.bool true)) (ups := []) rfl rfl rfl rfl ?_ | refine ao_eff (v := V.val (Value.bool false)) (ups := []) rfl rfl rfl rfl ?_ | refine aw_seq ?_ | refine aw_region ?_ | refine aw_block ?_ | refine ao_nil ⟨fun h => (Bool.false_ne_true h).elim, ?_⟩ | refine ao_nil ⟨fun _ => ⟨by kernel_rfl, by kernel_rfl⟩, ?_⟩ | refine ao_skip rfl rfl rfl ?_ | refine aw_true rfl ?_ | refine aw_false rfl ?_ | refine aw_skip ?_ | refine aw_exit ?_)
  exact .inr ⟨rfl, _, _, _, _, _, _, x, [], h1, by simp, ⟨.any _, .same _ rfl, .any _, .any _, .any _, .same _ rfl, .any _, .same _ rfl, .ptr _ _ _ _ _ _ _ rfl rfl rfl rfl, trivial⟩, ⟨renB_row rfl rfl rfl rfl rfl rfl rfl ⟨nofun, .same _ rfl, nofun, .same _ rfl, nofun, .same _ rfl, nofun, .same _ rfl, nofun, .same _ rfl, nofun, .same _ rfl, nofun, .sl _ _ _ _ _ _ _ rfl rfl rfl rfl, trivial⟩, renB_cl rfl rfl rfl rfl rfl rfl, trivial⟩⟩
def k5H (a b c d e f : Int) : List O → List (Nat × Blk)
  | [] => [(newId (siteOf 11 2) 0, ⟨0, 7, true, false, [[vi a, vi b, vi c, vi d, vi e, vi f, .emp]]⟩)]
  | y :: l => [(newId (siteOf 11 2) 0, ⟨0, 7, true, false, [[vi a, vi b, vi c, vi d, vi e, vi f, .sl (newId (siteOf 27 12) 0) 0 0 (y :: l).length]]⟩), (newId (siteOf 27 12) 0, ⟨0, 11, true, true, (y :: l).map oC⟩)]
theorem kindSw5 (ls : List O) (hls : Ls ls) (n : Nat) (hn : n < 40) (h0 : Nat → Option Blk) : AW Tryd.prog XX 231 (fstC (sk 1 kindB)) ⟨L [.any, vi 5, .any, .any, .any, .isl 11 (ls.map oC), .any, vi (n : Nat), .ptr (newId (siteOf 11 2) 0) 0 0 0], HH (odds h0) [(newId (siteOf 11 2) 0, ⟨0, 7, true, true, [[vi 5, vi 0, vi 0, vi 0, vi 0, vi 0, .emp]]⟩)]⟩ (fun x σ' => HasE 5 ls n x σ' ∨ HasS5 5 ls n x σ') := by
  have hn6 : Int.tmod (n : Int) 6 = ((n % 6 : Nat) : Int) := by rw [Int.tmod_eq_emod_of_nonneg (by omega)]; rfl
  repeat (first | refine ao_e rfl rfl rfl rfl rfl ?_ | refine ao_eff (v := V.val (Value.bool true)) (ups := []) rfl rfl rfl rfl ?_ | refine ao_eff (v := V.val (Value.bool false)) (ups := []) rfl rfl rfl rfl ?_ | refine aw_seq ?_ | refine aw_region ?_ | refine aw_block ?_ | refine ao_nil ⟨fun h => (Bool.false_ne_true h).elim, ?_⟩ | refine ao_nil ⟨fun _ => ⟨by kernel_rfl, by kernel_rfl⟩, ?_⟩ | refine ao_skip rfl rfl rfl ?_ | refine aw_true rfl ?_ | refine aw_false rfl ?_ | refine aw_skip ?_ | refine aw_exit ?_)
  refine aw_rounds (T := List O) (fun t => t.length ≤ n % 6 ∧ ∀ o ∈ t, o ∈ ls) (fun t => [.any, vi 5, .any, .any, .any, .isl 11 (ls.map oC), .any, vi (n : Nat), .ptr (newId (siteOf 11 2) 0) 0 0 0, vi t.length]) (fun t => k5H 5 0 0 n 0 0 t) (fun t => 6 - t.length) [] ⟨Nat.zero_le _, nofun⟩ ?_ ?_ ?_
  · exact ⟨.any _, .same _ rfl, .any _, .any _, .any _, .same _ rfl, .any _, .same _ rfl, .ptr _ _ _ _ _ _ _ rfl rfl rfl rfl, .same _ rfl, trivial⟩
  · exact ⟨renB_cl rfl rfl rfl rfl rfl rfl, trivial⟩
  rintro acc h0 ⟨hl, hA⟩
  obtain ⟨x, hx, ht, hne, hei⟩ := pickOf hls (n + acc.length)
  have hw : IntKind.i64.wrap ((n : Int) + (acc.length : Nat)) = ((n + acc.length : Nat) : Int) := by rw [wr64, w64 (by omega) (by omega)]; omega
  have hA2 : ∀ o ∈ acc ++ [x], o ∈ ls := by
    intro o ho
    rcases List.mem_append.1 ho with ho | ho
    · exact hA o ho
    · simp at ho; subst ho; exact hx
  rw [← hw] at ht hei
  by_cases hlt : acc.length < n % 6
  · cases acc with
    | nil =>
      repeat (first | refine ao_e rfl rfl rfl rfl rfl ?_ | refine ao_eff (v := V.val (Value.bool true)) (ups := []) rfl rfl rfl rfl ?_ | refine ao_eff (v := V.val (Value.bool false)) (ups := []) rfl rfl rfl rfl ?_ | refine aw_seq ?_ | refine aw_region ?_ | refine aw_block ?_ | refine ao_nil ⟨fun h => (Bool.false_ne_true h).elim, ?_⟩ | refine ao_nil ⟨fun _ => ⟨by kernel_rfl, by kernel_rfl⟩, ?_⟩ | refine ao_skip rfl rfl rfl ?_ | refine aw_true rfl ?_ | refine aw_false rfl ?_ | refine aw_skip ?_ | refine aw_exit ?_)
      refine ao_yes rfl rfl rfl rfl (by rw [hn6]; simp only [List.length_nil] at hlt ⊢; omega) ?_
      repeat (first | refine ao_e rfl rfl rfl rfl (ef_rem hne) ?_ | refine ao_e rfl rfl rfl rfl (ef_ix rfl rfl ht hei) ?_ | refine ao_e rfl rfl rfl rfl rfl ?_ | refine ao_eff (v := V.val (Value.bool true)) (ups := []) rfl rfl rfl rfl ?_ | refine ao_eff (v := V.val (Value.bool false)) (ups := []) rfl rfl rfl rfl ?_ | refine aw_seq ?_ | refine aw_region ?_ | refine aw_block ?_ | refine ao_nil ⟨fun h => (Bool.false_ne_true h).elim, ?_⟩ | refine ao_nil ⟨fun _ => ⟨by kernel_rfl, by kernel_rfl⟩, ?_⟩ | refine ao_skip rfl rfl rfl ?_ | refine aw_true rfl ?_ | refine aw_false rfl ?_ | refine aw_skip ?_ | refine aw_exit ?_)
      exact ⟨[x], ⟨by simp only [List.length_nil, List.length_singleton] at hlt ⊢; omega, hA2⟩, by simp only [List.length_nil, List.length_singleton]; omega, ⟨.any _, .same _ rfl, .any _, .any _, .any _, .same _ rfl, .any _, .same _ rfl, .ptr _ _ _ _ _ _ _ rfl rfl rfl rfl, rsucc 0 (by decide), trivial⟩, ⟨renB_row rfl rfl rfl rfl rfl rfl rfl ⟨nofun, .same _ rfl, nofun, .same _ rfl, nofun, .same _ rfl, nofun, .same _ rfl, nofun, .same _ rfl, nofun, .same _ rfl, nofun, .sl _ _ _ _ _ _ _ rfl rfl rfl rfl, trivial⟩, renB_cl rfl rfl rfl rfl rfl rfl, trivial⟩⟩
    | cons y l =>
      repeat (first | refine ao_e rfl rfl rfl rfl rfl ?_ | refine ao_eff (v := V.val (Value.bool true)) (ups := []) rfl rfl rfl rfl ?_ | refine ao_eff (v := V.val (Value.bool false)) (ups := []) rfl rfl rfl rfl ?_ | refine aw_seq ?_ | refine aw_region ?_ | refine aw_block ?_ | refine ao_nil ⟨fun h => (Bool.false_ne_true h).elim, ?_⟩ | refine ao_nil ⟨fun _ => ⟨by kernel_rfl, by kernel_rfl⟩, ?_⟩ | refine ao_skip rfl rfl rfl ?_ | refine aw_true rfl ?_ | refine aw_false rfl ?_ | refine aw_skip ?_ | refine aw_exit ?_)
      refine ao_yes rfl rfl rfl rfl (by rw [hn6]; omega) ?_
      repeat (first | refine ao_e rfl rfl rfl rfl (ef_rem hne) ?_ | refine ao_e rfl rfl rfl rfl (ef_ix rfl rfl ht hei) ?_ | refine ao_e rfl rfl rfl rfl (ef_push oC (y :: l) x 112 rfl rfl rfl rfl rfl rfl rfl rfl rfl (by omega)) ?_ | refine ao_e rfl rfl rfl rfl rfl ?_ | refine ao_eff (v := V.val (Value.bool true)) (ups := []) rfl rfl rfl rfl ?_ | refine ao_eff (v := V.val (Value.bool false)) (ups := []) rfl rfl rfl rfl ?_ | refine aw_seq ?_ | refine aw_region ?_ | refine aw_block ?_ | refine ao_nil ⟨fun h => (Bool.false_ne_true h).elim, ?_⟩ | refine ao_nil ⟨fun _ => ⟨by kernel_rfl, by kernel_rfl⟩, ?_⟩ | refine ao_skip rfl rfl rfl ?_ | refine aw_true rfl ?_ | refine aw_false rfl ?_ | refine aw_skip ?_ | refine aw_exit ?_)
      exact ⟨(y :: l) ++ [x], ⟨by simp only [List.length_append, List.length_singleton]; omega, hA2⟩, by simp only [List.length_append, List.length_singleton]; omega, ⟨.any _, .same _ rfl, .any _, .any _, .any _, .same _ rfl, .any _, .same _ rfl, .ptr _ _ _ _ _ _ _ rfl rfl rfl rfl, ren_eq (congrArg vi ((wsucc (i := (y :: l).length) (by omega)).trans (by simp))) rfl, trivial⟩, ⟨renB_row rfl rfl rfl rfl rfl rfl rfl ⟨nofun, .same _ rfl, nofun, .same _ rfl, nofun, .same _ rfl, nofun, .same _ rfl, nofun, .same _ rfl, nofun, .same _ rfl, nofun, .sl _ _ _ _ _ _ _ rfl rfl rfl rfl, trivial⟩, renB_cl rfl rfl rfl rfl rfl rfl, trivial⟩⟩
  · cases acc with
    | nil =>
      repeat (first | refine ao_e rfl rfl rfl rfl rfl ?_ | refine ao_eff (v := V.val (Value.bool true)) (ups := []) rfl rfl rfl rfl ?_ | refine ao_eff (v := V.val (Value.bool false)) (ups := []) rfl rfl rfl rfl ?_ | refine aw_seq ?_ | refine aw_region ?_ | refine aw_block ?_ | refine ao_nil ⟨fun h => (Bool.false_ne_true h).elim, ?_⟩ | refine ao_nil ⟨fun _ => ⟨by kernel_rfl, by kernel_rfl⟩, ?_⟩ | refine ao_skip rfl rfl rfl ?_ | refine aw_true rfl ?_ | refine aw_false rfl ?_ | refine aw_skip ?_ | refine aw_exit ?_)
      refine ao_no rfl rfl rfl rfl (by rw [hn6]; simp only [List.length_nil] at hlt ⊢; omega) ?_
      repeat (first | refine ao_e rfl rfl rfl rfl rfl ?_ | refine ao_eff (v := V.val (Value.bool true)) (ups := []) rfl rfl rfl rfl ?_ | refine ao_eff (v := V.val (Value.bool false)) (ups := []) rfl rfl rfl rfl ?_ | refine aw_seq ?_ | refine aw_region ?_ | refine aw_block ?_ | refine ao_nil ⟨fun h => (Bool.false_ne_true h).elim, ?_⟩ | refine ao_nil ⟨fun _ => ⟨by kernel_rfl, by kernel_rfl⟩, ?_⟩ | refine ao_skip rfl rfl rfl ?_ | refine aw_true rfl ?_ | refine aw_false rfl ?_ | refine aw_skip ?_ | refine aw_exit ?_)
      exact .inl ⟨rfl, _, _, _, _, _, _, ⟨.any _, .same _ rfl, .any _, .any _, .any _, .same _ rfl, .any _, .same _ rfl, .ptr _ _ _ _ _ _ _ rfl rfl rfl rfl, trivial⟩, ⟨renB_row rfl rfl rfl rfl rfl rfl rfl ⟨nofun, .same _ rfl, nofun, .same _ rfl, nofun, .same _ rfl, nofun, .same _ rfl, nofun, .same _ rfl, nofun, .same _ rfl, nofun, .same _ rfl, trivial⟩, trivial⟩⟩
    | cons y l =>
      repeat (first | refine ao_e rfl rfl rfl rfl rfl ?_ | refine ao_eff (v := V.val (Value.bool true)) (ups := []) rfl rfl rfl rfl ?_ | refine ao_eff (v := V.val (Value.bool false)) (ups := []) rfl rfl rfl rfl ?_ | refine aw_seq ?_ | refine aw_region ?_ | refine aw_block ?_ | refine ao_nil ⟨fun h => (Bool.false_ne_true h).elim, ?_⟩ | refine ao_nil ⟨fun _ => ⟨by kernel_rfl, by kernel_rfl⟩, ?_⟩ | refine ao_skip rfl rfl rfl ?_ | refine aw_true rfl ?_ | refine aw_false rfl ?_ | refine aw_skip ?_ | refine aw_exit ?_)
      refine ao_no rfl rfl rfl rfl (by rw [hn6]; omega) ?_
      repeat (first | refine ao_e rfl rfl rfl rfl rfl ?_ | refine ao_eff (v := V.val (Value.bool true)) (ups := []) rfl rfl rfl rfl ?_ | refine ao_eff (v := V.val (Value.bool false)) (ups := []) rfl rfl rfl rfl ?_ | refine aw_seq ?_ | refine aw_region ?_ | refine aw_block ?_ | refine ao_nil ⟨fun h => (Bool.false_ne_true h).elim, ?_⟩ | refine ao_nil ⟨fun _ => ⟨by kernel_rfl, by kernel_rfl⟩, ?_⟩ | refine ao_skip rfl rfl rfl ?_ | refine aw_true rfl ?_ | refine aw_false rfl ?_ | refine aw_skip ?_ | refine aw_exit ?_)
      exact .inr ⟨rfl, _, _, _, _, _, _, y, l, hA, by omega, ⟨.any _, .same _ rfl, .any _, .any _, .any _, .same _ rfl, .any _, .same _ rfl, .ptr _ _ _ _ _ _ _ rfl rfl rfl rfl, trivial⟩, ⟨renB_row rfl rfl rfl rfl rfl rfl rfl ⟨nofun, .same _ rfl, nofun, .same _ rfl, nofun, .same _ rfl, nofun, .same _ rfl, nofun, .same _ rfl, nofun, .same _ rfl, nofun, .sl _ _ _ _ _ _ _ rfl rfl rfl rfl, trivial⟩, renB_cl rfl rfl rfl rfl rfl rfl, trivial⟩⟩
theorem lawPackJoin (p : A12) (hg : G12 p) : AF Tryd.prog XX 4 [.agg (a12C p)] (vo true) := by
  have h := kindHead 1 p hg (fun ls hls h0 => kindLoop 1 ls (fun n hn h0 => kindBody 1 ls hls n hn (kindSw1 ls n) h0) h0)
  refine ac_mk (by kernel_rfl) Tryd.func4 rfl (lb rfl) rfl rfl ?_
  repeat (first | refine ao_e rfl rfl rfl rfl rfl ?_ | refine ao_eff (v := V.val (Value.bool true)) (ups := []) rfl rfl rfl rfl ?_ | refine ao_eff (v := V.val (Value.bool false)) (ups := []) rfl rfl rfl rfl ?_ | refine aw_seq ?_ | refine aw_region ?_ | refine aw_block ?_ | refine ao_nil ⟨fun h => (Bool.false_ne_true h).elim, ?_⟩ | refine ao_nil ⟨fun _ => ⟨by kernel_rfl, by kernel_rfl⟩, ?_⟩ | refine ao_skip rfl rfl rfl ?_ | refine aw_true rfl ?_ | refine aw_false rfl ?_ | refine aw_skip ?_ | refine aw_exit ?_)
  refine ao_fun rfl rfl rfl rfl rfl rfl h ?_
  repeat (first | refine ao_e rfl rfl rfl rfl rfl ?_ | refine ao_eff (v := V.val (Value.bool true)) (ups := []) rfl rfl rfl rfl ?_ | refine ao_eff (v := V.val (Value.bool false)) (ups := []) rfl rfl rfl rfl ?_ | refine aw_seq ?_ | refine aw_region ?_ | refine aw_block ?_ | refine ao_nil ⟨fun h => (Bool.false_ne_true h).elim, ?_⟩ | refine ao_nil ⟨fun _ => ⟨by kernel_rfl, by kernel_rfl⟩, ?_⟩ | refine ao_skip rfl rfl rfl ?_ | refine aw_true rfl ?_ | refine aw_false rfl ?_ | refine aw_skip ?_ | refine aw_exit ?_)
  exact aw_ret ⟨.inr rfl, _, _, _, _, _, rfl, rfl, rfl, rfl, rfl, rfl⟩
theorem lawPackWelcome (p : A12) (hg : G12 p) : AF Tryd.prog XX 5 [.agg (a12C p)] (vo true) := by
  have h := kindHead 2 p hg (fun ls hls h0 => kindLoop 2 ls (fun n hn h0 => kindBody 2 ls hls n hn (kindSw2 ls n) h0) h0)
  refine ac_mk (by kernel_rfl) Tryd.func5 rfl (lb rfl) rfl rfl ?_
  repeat (first | refine ao_e rfl rfl rfl rfl rfl ?_ | refine ao_eff (v := V.val (Value.bool true)) (ups := []) rfl rfl rfl rfl ?_ | refine ao_eff (v := V.val (Value.bool false)) (ups := []) rfl rfl rfl rfl ?_ | refine aw_seq ?_ | refine aw_region ?_ | refine aw_block ?_ | refine ao_nil ⟨fun h => (Bool.false_ne_true h).elim, ?_⟩ | refine ao_nil ⟨fun _ => ⟨by kernel_rfl, by kernel_rfl⟩, ?_⟩ | refine ao_skip rfl rfl rfl ?_ | refine aw_true rfl ?_ | refine aw_false rfl ?_ | refine aw_skip ?_ | refine aw_exit ?_)
  refine ao_fun rfl rfl rfl rfl rfl rfl h ?_
  repeat (first | refine ao_e rfl rfl rfl rfl rfl ?_ | refine ao_eff (v := V.val (Value.bool true)) (ups := []) rfl rfl rfl rfl ?_ | refine ao_eff (v := V.val (Value.bool false)) (ups := []) rfl rfl rfl rfl ?_ | refine aw_seq ?_ | refine aw_region ?_ | refine aw_block ?_ | refine ao_nil ⟨fun h => (Bool.false_ne_true h).elim, ?_⟩ | refine ao_nil ⟨fun _ => ⟨by kernel_rfl, by kernel_rfl⟩, ?_⟩ | refine ao_skip rfl rfl rfl ?_ | refine aw_true rfl ?_ | refine aw_false rfl ?_ | refine aw_skip ?_ | refine aw_exit ?_)
  exact aw_ret ⟨.inr rfl, _, _, _, _, _, rfl, rfl, rfl, rfl, rfl, rfl⟩
theorem lawPackAsk (p : A12) (hg : G12 p) : AF Tryd.prog XX 6 [.agg (a12C p)] (vo true) := by
  have h := kindHead 3 p hg (fun ls hls h0 => kindLoop 3 ls (fun n hn h0 => kindBody 3 ls hls n hn (kindSw3 ls n) h0) h0)
  refine ac_mk (by kernel_rfl) Tryd.func6 rfl (lb rfl) rfl rfl ?_
  repeat (first | refine ao_e rfl rfl rfl rfl rfl ?_ | refine ao_eff (v := V.val (Value.bool true)) (ups := []) rfl rfl rfl rfl ?_ | refine ao_eff (v := V.val (Value.bool false)) (ups := []) rfl rfl rfl rfl ?_ | refine aw_seq ?_ | refine aw_region ?_ | refine aw_block ?_ | refine ao_nil ⟨fun h => (Bool.false_ne_true h).elim, ?_⟩ | refine ao_nil ⟨fun _ => ⟨by kernel_rfl, by kernel_rfl⟩, ?_⟩ | refine ao_skip rfl rfl rfl ?_ | refine aw_true rfl ?_ | refine aw_false rfl ?_ | refine aw_skip ?_ | refine aw_exit ?_)
  refine ao_fun rfl rfl rfl rfl rfl rfl h ?_
  repeat (first | refine ao_e rfl rfl rfl rfl rfl ?_ | refine ao_eff (v := V.val (Value.bool true)) (ups := []) rfl rfl rfl rfl ?_ | refine ao_eff (v := V.val (Value.bool false)) (ups := []) rfl rfl rfl rfl ?_ | refine aw_seq ?_ | refine aw_region ?_ | refine aw_block ?_ | refine ao_nil ⟨fun h => (Bool.false_ne_true h).elim, ?_⟩ | refine ao_nil ⟨fun _ => ⟨by kernel_rfl, by kernel_rfl⟩, ?_⟩ | refine ao_skip rfl rfl rfl ?_ | refine aw_true rfl ?_ | refine aw_false rfl ?_ | refine aw_skip ?_ | refine aw_exit ?_)
  exact aw_ret ⟨.inr rfl, _, _, _, _, _, rfl, rfl, rfl, rfl, rfl, rfl⟩
theorem lawPackSubmit (p : A12) (hg : G12 p) : AF Tryd.prog XX 7 [.agg (a12C p)] (vo true) := by
  have h := kindHead 4 p hg (fun ls hls h0 => kindLoop 4 ls (fun n hn h0 => kindBody4 4 ls hls n hn (kindSw4 ls hls n hn) h0) h0)
  refine ac_mk (by kernel_rfl) Tryd.func7 rfl (lb rfl) rfl rfl ?_
  repeat (first | refine ao_e rfl rfl rfl rfl rfl ?_ | refine ao_eff (v := V.val (Value.bool true)) (ups := []) rfl rfl rfl rfl ?_ | refine ao_eff (v := V.val (Value.bool false)) (ups := []) rfl rfl rfl rfl ?_ | refine aw_seq ?_ | refine aw_region ?_ | refine aw_block ?_ | refine ao_nil ⟨fun h => (Bool.false_ne_true h).elim, ?_⟩ | refine ao_nil ⟨fun _ => ⟨by kernel_rfl, by kernel_rfl⟩, ?_⟩ | refine ao_skip rfl rfl rfl ?_ | refine aw_true rfl ?_ | refine aw_false rfl ?_ | refine aw_skip ?_ | refine aw_exit ?_)
  refine ao_fun rfl rfl rfl rfl rfl rfl h ?_
  repeat (first | refine ao_e rfl rfl rfl rfl rfl ?_ | refine ao_eff (v := V.val (Value.bool true)) (ups := []) rfl rfl rfl rfl ?_ | refine ao_eff (v := V.val (Value.bool false)) (ups := []) rfl rfl rfl rfl ?_ | refine aw_seq ?_ | refine aw_region ?_ | refine aw_block ?_ | refine ao_nil ⟨fun h => (Bool.false_ne_true h).elim, ?_⟩ | refine ao_nil ⟨fun _ => ⟨by kernel_rfl, by kernel_rfl⟩, ?_⟩ | refine ao_skip rfl rfl rfl ?_ | refine aw_true rfl ?_ | refine aw_false rfl ?_ | refine aw_skip ?_ | refine aw_exit ?_)
  exact aw_ret ⟨.inr rfl, _, _, _, _, _, rfl, rfl, rfl, rfl, rfl, rfl⟩
theorem lawPackSend (p : A12) (hg : G12 p) : AF Tryd.prog XX 8 [.agg (a12C p)] (vo true) := by
  have h := kindHead 5 p hg (fun ls hls h0 => kindLoop 5 ls (fun n hn h0 => kindBody5 5 ls hls n hn (kindSw5 ls hls n hn) h0) h0)
  refine ac_mk (by kernel_rfl) Tryd.func8 rfl (lb rfl) rfl rfl ?_
  repeat (first | refine ao_e rfl rfl rfl rfl rfl ?_ | refine ao_eff (v := V.val (Value.bool true)) (ups := []) rfl rfl rfl rfl ?_ | refine ao_eff (v := V.val (Value.bool false)) (ups := []) rfl rfl rfl rfl ?_ | refine aw_seq ?_ | refine aw_region ?_ | refine aw_block ?_ | refine ao_nil ⟨fun h => (Bool.false_ne_true h).elim, ?_⟩ | refine ao_nil ⟨fun _ => ⟨by kernel_rfl, by kernel_rfl⟩, ?_⟩ | refine ao_skip rfl rfl rfl ?_ | refine aw_true rfl ?_ | refine aw_false rfl ?_ | refine aw_skip ?_ | refine aw_exit ?_)
  refine ao_fun rfl rfl rfl rfl rfl rfl h ?_
  repeat (first | refine ao_e rfl rfl rfl rfl rfl ?_ | refine ao_eff (v := V.val (Value.bool true)) (ups := []) rfl rfl rfl rfl ?_ | refine ao_eff (v := V.val (Value.bool false)) (ups := []) rfl rfl rfl rfl ?_ | refine aw_seq ?_ | refine aw_region ?_ | refine aw_block ?_ | refine ao_nil ⟨fun h => (Bool.false_ne_true h).elim, ?_⟩ | refine ao_nil ⟨fun _ => ⟨by kernel_rfl, by kernel_rfl⟩, ?_⟩ | refine ao_skip rfl rfl rfl ?_ | refine aw_true rfl ?_ | refine aw_false rfl ?_ | refine aw_skip ?_ | refine aw_exit ?_)
  exact aw_ret ⟨.inr rfl, _, _, _, _, _, rfl, rfl, rfl, rfl, rfl, rfl⟩
theorem lawPackDone (p : A12) (hg : G12 p) : AF Tryd.prog XX 9 [.agg (a12C p)] (vo true) := by
  have h := kindHead 6 p hg (fun ls hls h0 => kindLoop 6 ls (fun n hn h0 => kindBody 6 ls hls n hn (kindSw6 ls n) h0) h0)
  refine ac_mk (by kernel_rfl) Tryd.func9 rfl (lb rfl) rfl rfl ?_
  repeat (first | refine ao_e rfl rfl rfl rfl rfl ?_ | refine ao_eff (v := V.val (Value.bool true)) (ups := []) rfl rfl rfl rfl ?_ | refine ao_eff (v := V.val (Value.bool false)) (ups := []) rfl rfl rfl rfl ?_ | refine aw_seq ?_ | refine aw_region ?_ | refine aw_block ?_ | refine ao_nil ⟨fun h => (Bool.false_ne_true h).elim, ?_⟩ | refine ao_nil ⟨fun _ => ⟨by kernel_rfl, by kernel_rfl⟩, ?_⟩ | refine ao_skip rfl rfl rfl ?_ | refine aw_true rfl ?_ | refine aw_false rfl ?_ | refine aw_skip ?_ | refine aw_exit ?_)
  refine ao_fun rfl rfl rfl rfl rfl rfl h ?_
  repeat (first | refine ao_e rfl rfl rfl rfl rfl ?_ | refine ao_eff (v := V.val (Value.bool true)) (ups := []) rfl rfl rfl rfl ?_ | refine ao_eff (v := V.val (Value.bool false)) (ups := []) rfl rfl rfl rfl ?_ | refine aw_seq ?_ | refine aw_region ?_ | refine aw_block ?_ | refine ao_nil ⟨fun h => (Bool.false_ne_true h).elim, ?_⟩ | refine ao_nil ⟨fun _ => ⟨by kernel_rfl, by kernel_rfl⟩, ?_⟩ | refine ao_skip rfl rfl rfl ?_ | refine aw_true rfl ?_ | refine aw_false rfl ?_ | refine aw_skip ?_ | refine aw_exit ?_)
  exact aw_ret ⟨.inr rfl, _, _, _, _, _, rfl, rfl, rfl, rfl, rfl, rfl⟩
end Go.Ai
