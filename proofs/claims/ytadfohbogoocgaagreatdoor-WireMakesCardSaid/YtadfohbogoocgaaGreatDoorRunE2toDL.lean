/- A part of the proof: what the program does, step by step, over values without addresses. No conditions of mine. -/
import Derived.Test.YtadfohbogoocgaaGreatDoorE1
import Derived.Deep.LoopGhost
import Derived.Test.YtadfohbogoocgaaGreatDoorRows
import Derived.ProofKit
import Derived.LaidMore
import Derived.LaidLaws
import Derived.MakeChecks
import Derived.Lib.LaidIn
import Derived.Lib.LaidU8
import Derived.PinnedBridge
set_option linter.unusedVariables false
set_option linter.unusedSimpArgs false
namespace Go.Ai
open Go Go.RowKit Go.Proofs Go.Sp
set_option maxRecDepth 10000
set_option maxHeartbeats 4000000
set_option linter.unusedVariables false
set_option linter.unusedSimpArgs false
theorem pn.sz : (Tryz.prog.info? 113).map (·.size) = some 2 := by kernel_rfl
theorem pn.lies : liesAt Tryz.prog Tryz.prog.depth 113 (2 / Tryz.prog.cellsOf 113) 0 113 1 = true := by kernel_rfl
theorem pn.used (b : Nat) (w : World) (h0 : w.cell? ⟨b, 0, none⟩ = some (.pointer (some ⟨b, 0, none⟩))) :
    Calls Tryz.prog 97 #[.pointer (some ⟨b, 0, none⟩)] w fun e w' => e = .returned (.tuple #[]) ∧ w' = w := by
  obtain ⟨j, hj, _⟩ := Option.map_eq_some_iff.1 pn.sz
  have hs := Lib.run_neq_ptr_same (P := Tryz.prog) w ⟨b, 0, none⟩ Tryz.underlying111 hj
  go_enter Tryz.func97, Tryz.ntmps97
  go_wp2
  go_end0
  exact ⟨rfl, rfl⟩
set_option maxRecDepth 100000 in
theorem pn.fresh (b : Nat) (w : World) (h0 : w.cell? ⟨b, 0, none⟩ = some (.pointer none)) (hsh : w.shape? b = some (113, 2)) (hfz : w.frozen? ⟨b, 0, none⟩ = false) :
    Calls Tryz.prog 97 #[.pointer (some ⟨b, 0, none⟩)] w fun e w' => e = .returned (.tuple #[]) ∧ w' = w.setCell ⟨b, 0, none⟩ (.pointer (some ⟨b, 0, none⟩)) := by
  obtain ⟨j, hj, hjs⟩ := Option.map_eq_some_iff.1 pn.sz
  go_enter Tryz.func97, Tryz.ntmps97
  go_wp2
  rw [Lib.run_to_unsafe (P := Tryz.prog) w ⟨b, 0, none⟩ Tryz.underlying111 Tryz.underlying140 hj (by rw [hjs]; decide) hsh (Nat.zero_lt_succ 1)]
  simp only [Result.andThen]
  rw [Oper.upon_value]
  go_wp2
  rw [run_callFunc_extern Tryz.func108 (by kernel_rfl) (by kernel_rfl) (by kernel_rfl) (e := Extern.AbiNoEscape.same) (by kernel_rfl)]
  rw [Lib.run_noEscape]
  simp only [Result.andThen]
  rw [Oper.upon_value]
  go_wp2
  rw [Lib.run_from_unsafe (P := Tryz.prog) w ⟨b, 0, none⟩ Tryz.underlying140 Tryz.underlying111 hj hsh pn.lies]
  simp only [Result.andThen]
  rw [Oper.upon_value]
  go_wp2
  go_end0
  exact ⟨rfl, rfl⟩
theorem pn.check (B b : Nat) (bs : List Value) (w : World) (h : Lib.IsBuilderF 113 5 B b bs w) :
    Calls Tryz.prog 97 #[.pointer (some ⟨b, 0, none⟩)] w fun e w' => e = .returned (.tuple #[]) ∧ (Lib.BuilderAtF 113 5 B b (.pointer (some ⟨b, 0, none⟩)) bs w' ∧ Below B w w') := by
  rcases h with h | h
  · refine (pn.fresh b w h.cell0 h.shape h.frozen0).mono ?_
    rintro e w' ⟨rfl, rfl⟩
    exact ⟨rfl, h.used _, (Below.refl B w).setCell (p := ⟨b, 0, none⟩) h.1 _⟩
  · refine (pn.used b w h.cell0).mono ?_
    rintro e w' ⟨rfl, rfl⟩
    exact ⟨rfl, h, Below.refl B _⟩
set_option maxHeartbeats 2000000 in
theorem pn.write (B b : Nat) (bs : List Value) (s : ByteArray) (w : World) (h : Lib.IsBuilderF 113 5 B b bs w) (hlen : bs.length + s.size ≤ 140737488355328) (hBw : B ≤ w.heap.size) :
    Calls Tryz.prog 73 #[.pointer (some ⟨b, 0, none⟩), .string s] w fun e w' => e = .returned (.tuple #[.int .i64 s.size, .nilIface]) ∧ (Lib.BuilderAtF 113 5 B b (.pointer (some ⟨b, 0, none⟩)) (bs ++ Lib.strCells s) w' ∧ Below B w w') := by
  obtain ⟨i0, hi, hz0, hz1, hz2⟩ := info_parts (show (Tryz.prog.info? 5).map (fun i => (i.zero, i.size, i.bytes)) = some (some (.int .u8 0), 1, 1) by kernel_rfl)
  have e95 : ∀ args w, (callFunc 97 args).run Tryz.prog w = .ok (.enter 97 args) w := enters_of Tryz.func97 (by kernel_rfl) rfl
  go_enter Tryz.func73, Tryz.ntmps73
  go_wp2_with (go_at_fn 97; refine (pn.check B b bs _ h).mono ?_)
  rintro e w1 ⟨rfl, h1, hb1⟩
  obtain ⟨hB, v, hbk, hown, hne⟩ := h1
  have c0 : w1.cell? ⟨b, 0, none⟩ = some (.pointer (some ⟨b, 0, none⟩)) := by rw [Lib.cell_of_heap hbk]; rfl
  have c1 : w1.cell? ⟨b, 1, none⟩ = some v := by rw [Lib.cell_of_heap hbk]; rfl
  go_wp2_with (at_builtin; refine Lib.wpList_append_own_stringF _ rfl _ _ 91 9 rfl B 5 i0 Tryz.underlying91 Tryz.underlying9 hi hz0 hz1 hz2 _ _ _ rfl hown s rfl ?c3 ?c4 ?c5 ?_)
  case c3 => unfold maxLen; omega
  case c4 => omega
  case c5 => have := hb1.size; omega
  intro v' w2 hown' hgrow _
  have hlt : b < w1.heap.size := by
    rcases Nat.lt_or_ge b w1.heap.size with h' | h'
    · exact h'
    · simp [Array.getElem?_eq_none h'] at hbk
  have hb2 : w2.heap[b]? = some (.cells #[.pointer (some ⟨b, 0, none⟩), v] 113 (0, 0)) := by
    rw [hgrow.block b hlt (fun e => hne e.symm)]
    exact hbk
  have d0 : w2.cell? ⟨b, 0, none⟩ = some (.pointer (some ⟨b, 0, none⟩)) := by rw [Lib.cell_of_heap hb2]; rfl
  have d1 : w2.cell? ⟨b, 1, none⟩ = some v := by rw [Lib.cell_of_heap hb2]; rfl
  have f1 : w2.frozen? ⟨b, 1, none⟩ = false := Lib.frozen_of_heap hb2 1
  obtain ⟨ao, n', cap, rfl⟩ : ∃ ao n' cap, v' = .slice ao n' cap := by
    rcases hown'.2 with ⟨hv, _⟩ | ⟨g, cap, cur, fz, hv, _⟩
    · exact ⟨_, _, _, hv⟩
    · exact ⟨_, _, _, hv⟩
  go_wp2
  go_ret2
  refine ⟨rfl, ?_, ?_⟩
  · exact Lib.BuilderAtF.put (T := 113) (e := 5) hB hb2 (bs' := bs ++ Lib.strCells s) (by simpa [Lib.strCells_length] using hown') (by decide)
  · exact (hb1.grown hgrow (by have := hb1.size; omega) (fun k hk => (hown.lt k hk).1)).setCell (p := ⟨b, 1, none⟩) hB _
theorem pn.blk {w w1 : World} {b : Nat} {o : Obj} (h : w.heap[b]? = some o) (hb : Below w.heap.size w w1) : w1.heap[b]? = some o := by
  have hlt : b < w.heap.size := by
    rcases Nat.lt_or_ge b w.heap.size with h' | h'
    · exact h'
    · simp [Array.getElem?_eq_none h'] at h
  rw [hb.block b hlt]; exact h
theorem pn.grown {w w1 : World} (hb : Below w.heap.size w w1) (k : Option Nat) : w.grownBy w1 k := ⟨hb.os, hb.tape, hb.output, hb.size, fun b h _ => hb.block b h⟩
theorem pn.below {T e : TypeId} {B b : Nat} {p : Value} {bs : List Value} {w w1 : World} (h : Lib.BuilderAtF T e B b p bs w) (hb : Below w.heap.size w w1) : Lib.BuilderAtF T e B b p bs w1 := by
  obtain ⟨hB, v, hbk, hown, hne⟩ := h
  exact ⟨hB, v, pn.blk hbk hb, hown.kept (pn.grown hb none) (by cases v.ownBlock <;> simp), hne⟩
theorem pn.isbelow {T e : TypeId} {B b : Nat} {bs : List Value} {w w1 : World} (h : Lib.IsBuilderF T e B b bs w) (hb : Below w.heap.size w w1) : Lib.IsBuilderF T e B b bs w1 := by
  rcases h with h | h
  · exact .inl (pn.below h hb)
  · exact .inr (pn.below h hb)
theorem pn.cells (a b : ByteArray) : Lib.strCells (a ++ b) = Lib.strCells a ++ Lib.strCells b := by
  simp [Lib.strCells]
/-- A fact that the steps are not to look at. -/
structure Hid (p : Prop) : Prop where
  out : p
theorem bytesCalls (n : Int) (hn : inN n) (W : World) : Calls Tryz.prog 49 #[.int .i64 n] W fun e w' => e = .returned (.string (strOfNums (vb n.toNat))) ∧ Below W.heap.size W w' := by
  have h1 := numBytes (X := noX) n.toNat (by have := hn.2; omega)
  rw [Int.toNat_of_nonneg hn.1] at h1
  have h : CallOk Tryz.prog S0 49 [vi n] [] (vs (strOfNums (vb n.toNat))) [] [] := af_ok (X := noX) (by kernel_rfl) (fun _ _ _ _ _ _ h => h.elim) h1
  refine calls_of_ok h (fun E z hz => vr_val hz) W (fun _ => False) (fun _ h => h.elim) _ rfl (fun j v hj => ?_) (Nat.zero_le _) trivial
  cases j with
  | zero => simp at hj; subst hj; exact .clo (.val _)
  | succ j => simp at hj
/-- A list of whole numbers that is read. -/
theorem isl_ints {E : Env} {l : List Int} {y : Value} (h : VR E (.isl 1 (l.map fun x => [vi x])) y) : ∃ A cap, y = .slice A l.length cap ∧ ∀ (k : Nat) (hk : k < l.length), ∃ ad, A = some ad ∧ E.I ad.block ∧ E.w.cell? (ad.add k) = some (.int .i64 l[k]) := by
  cases h with
  | clo h =>
    cases h with
    | isl sz es a cap vals hc hl hk ha h1 h2 =>
      rw [List.length_map]
      refine ⟨a, cap, rfl, fun k hk' => ?_⟩
      have he : (l.map fun x => [vi x])[k]? = some [vi l[k]] := by rw [List.getElem?_map, List.getElem?_eq_getElem hk']; rfl
      obtain ⟨b, o, rfl, hI⟩ := ha (fun h0 => by rw [h0] at he; simp at he)
      have hv := h2 k 0 _ (vi l[k]) he rfl
      have hc2 := h1 k 0 _ (vi l[k]) he rfl _ rfl
      refine ⟨⟨b, o, none⟩, rfl, hI, ?_⟩
      rw [cell_add]
      have e : vals k 0 = .int .i64 l[k] := by
        generalize vals k 0 = z at hv
        cases hv; rfl
      rw [e] at hc2
      simpa using hc2
theorem numsB_cons (x : Int) (l : List Int) : strOfNums (numsB (x :: l)) = strOfNums (vb x.toNat) ++ strOfNums (numsB l) := by
  rw [← str_append]; rfl
set_option maxHeartbeats 8000000 in
set_option maxRecDepth 100000 in
theorem numbersCalls (l : List Int) (hl : ∀ x ∈ l, inN x) (hn : l.length ≤ 1000) (w : World) (A0 : Option Addr) (c0 : Nat)
    (hc : ∀ (k : Nat) (hk : k < l.length), ∃ ad, A0 = some ad ∧ ad.block < w.heap.size ∧ w.cell? (ad.add k) = some (.int .i64 l[k])) :
    Calls Tryz.prog 47 #[.slice A0 l.length c0] w fun e w' => e = .returned (.string (strOfNums (numsB l))) ∧ Below w.heap.size w w' := by
  have HC := Hid.mk hc
  have HL := Hid.mk hl
  clear hc hl
  have hu113 := Tryz.underlying113
  have e86 : ∀ args w, (callFunc 73 args).run Tryz.prog w = .ok (.enter 73 args) w := enters_of Tryz.func73 (by kernel_rfl) rfl
  have e87 : ∀ args w, (callFunc 74 args).run Tryz.prog w = .ok (.enter 74 args) w := enters_of Tryz.func74 (by kernel_rfl) rfl
  have e75 : ∀ args w, (callFunc 49 args).run Tryz.prog w = .ok (.enter 49 args) w := enters_of Tryz.func49 (by kernel_rfl) rfl
  go_enter Tryz.func47, Tryz.ntmps47
  go_wp2
  go_loopg [5, 8] l.length (fun gg _ s8 wr => ∃ (kk : Nat) (acc : List Int), kk ≤ l.length ∧ l.length - kk ≤ gg ∧ s8 = .int .i64 kk ∧ Hid (acc = l.take kk) ∧ Hid (Lib.IsBuilderF 113 5 w.heap.size w.heap.size (Lib.strCells (strOfNums (numsB acc))) wr) ∧ Hid (Below w.heap.size w wr))
  case atStart =>
    refine ⟨0, [], Nat.zero_le _, by omega, rfl, ⟨by simp⟩, ⟨.inl ⟨Nat.le_refl _, _, heap_alloc_new w _, World.ownsRowF_nil _ _ _ _, by simp [Value.ownBlock]⟩⟩, ⟨(Below.refl _ _).alloc (Nat.le_refl _) _⟩⟩
  case round =>
    obtain ⟨kk, acc, hkk, hg, rfl, HA, HI, HB⟩ := hrel
    by_cases hlt : kk < l.length
    · have hltz : (kk : Int) < (l.length : Int) := by omega
      have HX := Hid.mk (HL.out _ (List.getElem_mem hlt))
      obtain ⟨ad1, e1, hblt, hx1⟩ := HC.out kk hlt
      cases e1
      replace hx1 : wr.cell? (ad1.add kk) = some (.int .i64 l[kk]) := by
        rw [← hx1]
        exact World.cell?_of_block (by rw [show (ad1.add kk).block = ad1.block by unfold Addr.add; split <;> rfl]; exact HB.out.block _ hblt)
      have HT := Hid.mk (show l.take (kk + 1) = acc ++ [l[kk]] by rw [HA.out]; exact List.take_succ_eq_append_getElem hlt)
      have HS := Hid.mk (show (strOfNums (numsB acc)).size ≤ 5 * 1000 by
        rw [strOfNums_size]
        have := numsB_len acc (fun x hx => HL.out x (by rw [HA.out] at hx; exact List.mem_of_mem_take hx))
        rw [HA.out, List.length_take] at this
        rw [HA.out]; omega)
      have HV := Hid.mk (show (strOfNums (vb (l[kk]).toNat)).size ≤ 5 by
        rw [strOfNums_size]
        exact vb_len5 _ (by have := HX.out.2; omega))
      have HE := Hid.mk (show strOfNums (numsB (acc ++ [l[kk]])) = strOfNums (numsB acc) ++ strOfNums (vb (l[kk]).toNat) by
        rw [← str_append]; congr 1; simp [numsB])
      clear hblt
      generalize l[kk] = x at *
      go_wp2_with (go_at_fn 49; (with_reducible refine (bytesCalls x HX.out _).mono ?_); rintro e w2 ⟨rfl, hb⟩; clear hx1; have HI2 := Hid.mk (pn.isbelow HI.out hb); have HB2 := Hid.mk (HB.out.trans (hb.mono HB.out.size)); clear hb HI HB)
      go_wp2_with (go_at_fn 73; (with_reducible refine (pn.write w.heap.size w.heap.size (Lib.strCells (strOfNums (numsB acc))) _ _ HI2.out ?c1 ?c2).mono ?_); (case c1 => rw [Lib.strCells_length]; have := HS.out; have := HV.out; omega); (case c2 => exact HB2.out.size); rintro e w3 ⟨rfl, hat, hb⟩; have HI3 := Hid.mk hat; have HB3 := Hid.mk (HB2.out.trans hb); clear hat hb HI2 HB2)
      go_roundg (l.length - (kk + 1))
      case measure => omega
      case rel =>
        refine ⟨kk + 1, acc ++ [x], by omega, by omega, (by first | rfl | (rw [show wrap64 ((kk : Int) + 1) = ((kk + 1 : Nat) : Int) from by unfold wrap64; omega]) | (simp; done) | go_num), ⟨HT.out.symm⟩, ⟨by rw [HE.out, pn.cells]; exact .inr HI3.out⟩, HB3⟩
    · have hltz : ¬ (kk : Int) < (l.length : Int) := by omega
      have e0 : kk = l.length := by omega
      subst e0
      obtain rfl : acc = l := by
        have := HA.out
        rwa [List.take_length] at this
      have HS := Hid.mk (show Lib.IsBuilderF 113 5 w.heap.size w.heap.size (Lib.byteCells (strOfNums (numsB acc)).data.toList) wr from HI.out)
      go_wp2_with (go_at_fn 74; (with_reducible refine (Tryz.Builder_String_any_k w.heap.size w.heap.size (strOfNums (numsB acc)).data.toList _ HS.out HB.out.size).mono ?_); rintro e w2 ⟨rfl, _, hb, _⟩; have HB2 := Hid.mk (HB.out.trans hb); clear hb)
      go_ret
      exact ⟨by simp, HB2.out⟩
theorem okNumbers {S : Sys} (l : List Int) (hl : ∀ x ∈ l, inN x) (hn : l.length ≤ 1000) : CallOk Tryz.prog S 47 [.isl 1 (l.map fun x => [vi x])] [] (vs (strOfNums (numsB l))) [] [] := by
  refine callOk_pure (y := .string (strOfNums (numsB l))) (fun E => .clo (.val _)) (fun w I cargs hu hi hsz ha => ?_)
  obtain ⟨A, cap, hy, hc⟩ := isl_ints (ha 0 _ rfl)
  have e : cargs = #[.slice A l.length cap] := by
    apply Array.ext
    · simpa using hsz
    · intro i h1 h2
      have : i = 0 := by simp at h2; omega
      subst this
      simpa [Array.getD, h1] using hy
  subst e
  exact numbersCalls l hl hn w A cap (fun k hk => by
    obtain ⟨ad, h1, h2, h3⟩ := hc k hk
    exact ⟨ad, h1, hi _ h2, h3⟩)
/-- What is known otherwise holds. -/
theorem xx_ok : ∀ f args pts res pts' outs, XX f args pts res pts' outs → CallOk Tryz.prog SU f args pts res pts' outs := by
  intro f args pts res pts' outs h
  cases h with
  | may s hs => exact okMay s
  | count s hs => exact okCount s hs
  | numbers l h hl => exact okNumbers l h hl
  | decode s h0 => exact okDecode s h0
end Go.Ai

namespace Go.Proofs.YtadfohbogoocgaaGreatDoor.DoorLaid
open Go.Shelf Go.RowKit Go.Lib
abbrev lst : List (String × DataW Unit) := [("unicode/utf8.acceptRanges", Rows.laid_unicode_utf8_acceptRanges), ("unicode/utf8.first", Rows.laid_unicode_utf8_first)]
theorem u8 : U8Extra Tryz.prog Tryz.lays260_ren := ⟨by kernel_rfl, by kernel_rfl, by kernel_rfl, by kernel_rfl, by kernel_rfl, by kernel_rfl, by kernel_rfl⟩
theorem e3 : Rows.laid_unicode_utf8_first = firstData := Pinned.utf8First_eq
theorem e4 : (Rows.laid_unicode_utf8_acceptRanges : DataW Unit) = acceptData := by kernel_rfl
theorem plain : laidMetH Tryz.prog lst = laidMet Tryz.prog lst := by
  funext w
  exact MakeChecks.laidMetH_plain _ _ _ (by kernel_rfl)
theorem ut {W : World} (h : laidMetH Tryz.prog lst W) : Lib.Utf8Tabs 0 1 W := by
  rw [plain] at h
  have h4 := laidMet.reads h (n := "unicode/utf8.acceptRanges") (d := Rows.laid_unicode_utf8_acceptRanges) (.head _)
  have h3 := laidMet.reads h (n := "unicode/utf8.first") (d := Rows.laid_unicode_utf8_first) (.tail _ (.head _))
  rw [e3] at h3
  rw [e4] at h4
  exact utf8Tabs_of_reads Tryz.lays260 u8 h3 h4
theorem lo {W : World} (h : Lib.Utf8Tabs 0 1 W) : 2 ≤ W.heap.size := by
  have := World.block_lt_of_cell? W _ (h.2 0 (by decide)).1
  exact this
noncomputable def laidW (os : Os) : World :=
  let w0 := World.holding Tryz.prog os ⟨#[], #[], []⟩
  let put (h : Array Obj) (g : Nat) (cs : Array Value) : Array Obj := h.modify g fun
    | .cells _ t frozen => .cells cs t frozen
    | o => o
  { w0 with heap := put (put w0.heap 0 (firstTab.map fun z => Value.int .u8 z).toArray) 1 ((List.range 16).flatMap fun i => [Value.int .u8 (accLo i), Value.int .u8 (accHi i)]).toArray }
set_option maxRecDepth 1000000 in
theorem met (os : Os) (args : Array Value) : laidMetH Tryz.prog lst ((laidW os).forCall (fun _ _ => 0) ⟨#[], args, []⟩).memory := by
  rw [plain]
  exact (LaidIn.of_run [1, 0] 8 (by kernel_rfl) (by kernel_rfl) (by kernel_rfl) (by kernel_rfl)).met
set_option maxRecDepth 1000000 in
theorem shaped (os : Os) (args : Array Value) : ((laidW os).forCall (fun _ _ => 0) ⟨#[], args, []⟩).Shaped Tryz.prog := World.shaped_of_RefB (by kernel_rfl) (by kernel_rfl)
theorem os_eq (os : Os) : (laidW os).os = os := rfl
end Go.Proofs.YtadfohbogoocgaaGreatDoor.DoorLaid
