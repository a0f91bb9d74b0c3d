/- A part of the proof: what the program does, step by step, over values without addresses. No conditions of mine. -/
import Derived.Test.YtadfohbogoocgaaGreatDoorRunN9toAiG
import Derived.Test.YtadfohbogoocgaaGreatDoorCoreAiKtoAiOp
import Derived.Test.YtadfohbogoocgaaGreatDoorShelf
set_option linter.unusedVariables false
set_option linter.unusedSimpArgs false
namespace Go.Ai
open Go Go.RowKit Go.Proofs Go.Sp
set_option maxRecDepth 10000
set_option maxHeartbeats 4000000
set_option linter.unusedVariables false
set_option linter.unusedSimpArgs false
theorem textIs (x : Int) {X : FuncId → List V → List (Nat × List V) → V → List (Nat × List V) → List Blk → Prop} : AF Tryz.prog X 112 [.val (.int .i32 x)] (vo (decide (okR x))) := by
  refine ac_mk (by kernel_rfl) Tryz.func112 rfl (lb rfl) rfl rfl ?_
  repeat' (first | refine ao_e rfl rfl rfl rfl rfl ?_ | refine ao_eff (v := V.val (Value.bool true)) (ups := []) rfl rfl rfl rfl ?_ | refine ao_eff (v := V.val (Value.bool false)) (ups := []) rfl rfl rfl rfl ?_ | refine aw_seq ?_ | refine aw_region ?_ | refine aw_block ?_ | refine ao_nil ⟨fun h => (Bool.false_ne_true h).elim, ?_⟩ | refine ao_nil ⟨fun _ => ⟨by kernel_rfl, by kernel_rfl⟩, ?_⟩ | refine ao_skip rfl rfl rfl ?_ | refine aw_true rfl ?_ | refine aw_false rfl ?_ | refine aw_skip ?_ | refine aw_exit ?_ | refine ao_dec rfl rfl rfl (eqE _ _ _ _ _ _).1 (fun hb => ?_) (fun hb => ?_) | refine ao_ndec rfl rfl rfl (eqE _ _ _ _ _ _).2 (fun hb => ?_) (fun hb => ?_) | refine ao_dec rfl rfl rfl rfl (fun hb => ?_) (fun hb => ?_) | refine ao_ndec rfl rfl rfl rfl (fun hb => ?_) (fun hb => ?_) | refine ao_str rfl rfl rfl rfl (fun hb => ?_) (fun hb => ?_) | refine ao_nstr rfl rfl rfl rfl (fun hb => ?_) (fun hb => ?_) | refine ao_bool rfl rfl rfl rfl (fun hb => ?_) (fun hb => ?_) | refine aw_ret ⟨.inr rfl, _, _, _, _, _, rfl, rfl, rfl, rfl, ?_, rfl⟩)
  all_goals refine congrArg (fun b => V.val (Value.bool b)) ?_
  all_goals first | refine decide_eq_true ?_ | refine decide_eq_false ?_
  all_goals unfold okR
  all_goals omega
theorem textBad (x : Int) {X : FuncId → List V → List (Nat × List V) → V → List (Nat × List V) → List Blk → Prop} : AF Tryz.prog X 105 [.val (.int .i32 x)] (vo (badR x)) := by
  refine ac_mk (by kernel_rfl) Tryz.func105 rfl (lb rfl) rfl rfl ?_
  repeat' (first | refine ao_e rfl rfl rfl rfl rfl ?_ | refine ao_eff (v := V.val (Value.bool true)) (ups := []) rfl rfl rfl rfl ?_ | refine ao_eff (v := V.val (Value.bool false)) (ups := []) rfl rfl rfl rfl ?_ | refine aw_seq ?_ | refine aw_region ?_ | refine aw_block ?_ | refine ao_nil ⟨fun h => (Bool.false_ne_true h).elim, ?_⟩ | refine ao_nil ⟨fun _ => ⟨by kernel_rfl, by kernel_rfl⟩, ?_⟩ | refine ao_skip rfl rfl rfl ?_ | refine aw_true rfl ?_ | refine aw_false rfl ?_ | refine aw_skip ?_ | refine aw_exit ?_ | refine ao_funb rfl rfl rfl rfl rfl rfl (textIs _) (fun hb => ?_) (fun hb => ?_) | refine ao_dec rfl rfl rfl (eqE _ _ _ _ _ _).1 (fun hb => ?_) (fun hb => ?_) | refine ao_ndec rfl rfl rfl (eqE _ _ _ _ _ _).2 (fun hb => ?_) (fun hb => ?_) | refine ao_dec rfl rfl rfl rfl (fun hb => ?_) (fun hb => ?_) | refine ao_ndec rfl rfl rfl rfl (fun hb => ?_) (fun hb => ?_) | refine ao_str rfl rfl rfl rfl (fun hb => ?_) (fun hb => ?_) | refine ao_nstr rfl rfl rfl rfl (fun hb => ?_) (fun hb => ?_) | refine ao_bool rfl rfl rfl rfl (fun hb => ?_) (fun hb => ?_) | refine aw_ret ⟨.inr rfl, _, _, _, _, _, rfl, rfl, rfl, rfl, ?_, rfl⟩)
  all_goals refine congrArg (fun b => V.val (Value.bool b)) ?_
  all_goals unfold badR
  all_goals simp_all
/-- Nothing is known of the world. -/
def S0 : Sys := ⟨0, fun _ => True, fun _ _ _ _ => trivial⟩
def noX : FuncId → List V → List (Nat × List V) → V → List (Nat × List V) → List Blk → Prop := fun _ _ _ _ _ _ => False
theorem af_ok {P : Program} {X : FuncId → List V → List (Nat × List V) → V → List (Nat × List V) → List Blk → Prop} {S : Sys} (hmix : P.follows .mixedOrders = true) (hX : ∀ f args pts res pts' outs, X f args pts res pts' outs → CallOk P S f args pts res pts' outs) {f : FuncId} {args : List V} {res : V} (h : AF P X f args res) : CallOk P S f args [] res [] [] := run_sound hmix hX h.2.2.2
theorem vr_val {E : Env} {v : Value} {z : Value} (h : VR E (.val v) z) : z = v := by
  cases h with
  | clo h => cases h; rfl
theorem badCalls (x : Int) (W : World) : Calls Tryz.prog 105 #[.int .i32 x] W fun e w' => e = .returned (.bool (badR x)) ∧ Below W.heap.size W w' := by
  have h : CallOk Tryz.prog S0 105 [.val (.int .i32 x)] [] (vo (badR x)) [] [] := af_ok (X := noX) (by kernel_rfl) (fun _ _ _ _ _ _ h => h.elim) (textBad x)
  refine calls_of_ok h (fun E z hz => vr_val hz) W (fun _ => False) (fun _ h => h.elim) _ rfl (fun j v hj => ?_) (Nat.zero_le _) trivial
  cases j with
  | zero => simp at hj; subst hj; exact .clo (.val _)
  | succ j => simp at hj
theorem badEnters : ∀ args w, (callFunc 105 args).run Tryz.prog w = .ok (.enter 105 args) w := fun args w => run_callFunc (by kernel_rfl) args w
theorem args1 {E : Env} {v : Value} {cargs : Array Value} (hsz : cargs.size = [V.val v].length) (ha : ∀ (j : Nat) u, [V.val v][j]? = some u → VR E u (cargs.getD j undef)) : cargs = #[v] := by
  have h0 := vr_val (ha 0 (.val v) rfl)
  apply Array.ext
  · simpa using hsz
  · intro i h1 h2
    have : i = 0 := by simp at hsz; omega
    subst this
    simpa [Array.getD, h1] using h0
theorem okMay {S : Sys} (s : ByteArray) : CallOk Tryz.prog S 94 [vs s] [] (vo (textB s)) [] [] := by
  refine callOk_pure (y := .bool (textB s)) (fun E => .clo (.val _)) (fun w I cargs hu hi hsz ha => ?_)
  obtain rfl := args1 hsz ha
  have hcon := Tryz.strings_ContainsFunc_grows 105 #[] badEnters (fun x => badR (x : Int)) s w (fun W x _ _ => (badCalls (x : Int) W))
  unfold textB
  generalize Lib.idxFunc (fun x => badR (x : Int)) true s = q at hcon ⊢
  go_enter Tryz.func94, Tryz.ntmps94
  go_wp2_with (go_at_call 104; refine hcon.mono ?_; rintro e w' ⟨rfl, hb⟩)
  go_ret
  exact ⟨rfl, hb⟩
theorem okCount {S : Sys} (s : ByteArray) (hs : s.size < 9223372036854775807) : CallOk Tryz.prog S 106 [vs s] [] (vi (Lib.runeCount s)) [] [] := by
  refine callOk_pure (y := .int .i64 (Lib.runeCount s)) (fun E => .clo (.val _)) (fun w I cargs hu hi hsz ha => ?_)
  obtain rfl := args1 hsz ha
  refine (Tryz.utf8_RuneCountInString s w hs).mono ?_
  rintro e w' ⟨rfl, pos, rfl⟩
  exact ⟨rfl, (Below.refl _ _).alloc (Nat.le_refl _) _⟩
/-- The tables of unicode/utf8 lie in the first two blocks. -/
def SU : Sys := ⟨2, fun w => Lib.Utf8Tabs 0 1 w, fun w w' h hu => by
  have e : ∀ g o, g < 2 → w'.cell? ⟨g, o, none⟩ = w.cell? ⟨g, o, none⟩ := fun g o hg => World.cell?_of_block (h g hg)
  exact ⟨fun c hc => by rw [e 0 c (by decide)]; exact hu.1 c hc, fun i hi => ⟨by rw [e 1 _ (by decide)]; exact (hu.2 i hi).1, by rw [e 1 _ (by decide)]; exact (hu.2 i hi).2⟩⟩⟩
theorem okDecode (s : ByteArray) (h0 : 0 < s.size) : CallOk Tryz.prog SU 98 [vs s] [] (.tup [.val (.int .i32 (Utf8.decode s 0).1), vi (Utf8.decode s 0).2]) [] [] := by
  refine callOk_pure (y := .tuple #[.int .i32 (Utf8.decode s 0).1, .int .i64 (Utf8.decode s 0).2]) (fun E => .tup _ _ rfl (fun j c hj => ?_)) (fun w I cargs hu hi hsz ha => ?_)
  · match j, hj with
    | 0, hj => simp at hj; subst hj; exact .clo (.val _)
    | 1, hj => simp at hj; subst hj; exact .clo (.val _)
    | j + 2, hj => simp at hj
  · obtain rfl := args1 hsz ha
    have := Tryz.utf8_DecodeRuneInString s w hu
    unfold Lib.decodeGo at this
    rw [if_neg (by omega)] at this
    exact this
end Go.Ai
