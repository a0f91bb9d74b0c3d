/- Beside the print's words: runes of a string as a row of the call's own, a string of runes, bytes of a string as a row that may be written. -/
import Derived.Test.YtcjedinpiedhcaaDoorWMore
import Derived.Laws.Cover4
import Derived.Laws.IdiomStrings
import Derived.Laws.Runes
import Derived.Lib.ConvBytes
namespace Go.Proofs.YtcjedinpiedhcaaDoorX
open Go.RowKit Go.Proofs.YtcjedinpiedhcaaDoorW.PrintWords Go.Proofs.YtcjedinpiedhcaaDoorW.PrintLast Go.Proofs.YtcjedinpiedhcaaDoorW.PrintMore
set_option linter.unusedVariables false

/-- The runes of a string from a byte on. -/
def rn (s : ByteArray) : Nat → Nat → List Int
  | 0, _ => []
  | f + 1, i => if i < s.size then ((Utf8.decode s i).1 : Int) :: rn s f (i + (Utf8.decode s i).2) else []
def runesOf (s : ByteArray) : List Int := rn s s.size 0
theorem runesFrom_rn (s : ByteArray) : ∀ (f i : Nat) (acc : Array Value), (Conv.runesFrom s f i acc).toList = acc.toList ++ nums .i32 (rn s f i)
  | 0, i, acc => by simp [Conv.runesFrom, rn, nums]
  | f + 1, i, acc => by
    unfold Conv.runesFrom rn
    by_cases h : i < s.size
    · simp only [if_pos h]
      rw [runesFrom_rn s f]
      simp [nums]
    · simp only [if_neg h]
      simp [nums]
theorem runesFrom_eq (s : ByteArray) : Conv.runesFrom s s.size 0 #[] = (nums .i32 (runesOf s)).toArray := by
  apply Array.ext'
  rw [runesFrom_rn]
  simp [runesOf]
theorem rn_length (s : ByteArray) : ∀ (f i : Nat), (rn s f i).length ≤ f
  | 0, i => by simp [rn]
  | f + 1, i => by
    unfold rn
    split
    · have := rn_length s f (i + (Utf8.decode s i).2)
      simp only [List.length_cons]; omega
    · simp
theorem runesOf_length (s : ByteArray) : (runesOf s).length ≤ s.size := rn_length s s.size 0

section
variable {P : Program} {ops : Array Oper} {rest : List Oper} {o : Oper} {a : Act} {Q : Exit → Act → World → Prop}
/-- '[]rune(s)': a row of the call's own. -/
theorem Kd.R_runes {w0 W : World} (base e : Nat) (hgd : o.guard = none) {N : Tmp} (_hd : o.dst = some N) (src t : TypeId) (x : Operand) (ho : o.op = .convert src t x) (s : ByteArray) (hx : a.eval x = .string s)
    (hs : P.underlying src = some .string) (ht : P.underlying t = some (.slice e)) (he : P.underlying e = some (.int .i32)) (hl : s.size ≤ 70368744177664) {ok : Nat → Prop} (hfresh : ok W.heap.size) (HB : Below base w0 W) (hbase : base ≤ W.heap.size)
    (h : ∀ v1 w1, (Kd.int .i32).R e w1 base ok v1 (runesOf s) → Below base w0 w1 → W.grownBy w1 none → (∃ b, v1.ownBlock = some b ∧ W.heap.size ≤ b) → wpList P ops Q rest (a.put o.dst v1) w1) : wpList P ops Q (o :: rest) a W := by
  have hlen := runesOf_length s
  have hsz : (Conv.runesFrom s s.size 0 #[]).size = (runesOf s).length := by rw [runesFrom_eq]; simp [nums_length]
  have hr := run_runes_of_string (P := P) W src t e s hs ht he (by rw [hsz]; omega)
  have hge := grownCap_ge W (runesOf s).length 0 e
  have hle := grownCap_le_maxLen W (runesOf s).length 0 e (by simp only [maxLen]; omega)
  rw [hsz] at hr
  have hrun : (execOp a.eval o).run P W = .ok (.value (.slice (some ⟨W.heap.size, 0, none⟩) (runesOf s).length (grownCap W (runesOf s).length 0 e))) (W.drew.alloc (.cells (Conv.runesFrom s s.size 0 #[] ++ Array.replicate (grownCap W (runesOf s).length 0 e - (runesOf s).length) (.int .i32 0)) e)) := by
    simp [execOp, ho, hx, hr]
  refine Kd.event_run hgd hrun (h _ _ (Kd.R_of_own ?_ ?_) ?_ ?_ ⟨W.heap.size, by simp [Value.ownBlock], Nat.le_refl _⟩)
  · refine ⟨by simp [encs], .inr ⟨W.heap.size, _, _, rfl, hbase, heap_alloc_new W.drew _, hge, hle, ?_, ?_⟩⟩
    · rw [Array.size_append, hsz, Array.size_replicate]; omega
    · rw [runesFrom_eq, Array.toList_append, Nat.mul_one]
      exact List.take_left' (by simp [nums_length])
  · intro k hk
    have : W.heap.size = k := by simpa [Value.ownBlock] using hk
    subst this
    exact hfresh
  · exact (below_drew1 HB).alloc hbase _
  · have g := World.grownBy_alloc W.drew (.cells (Conv.runesFrom s s.size 0 #[] ++ Array.replicate (grownCap W (runesOf s).length 0 e - (runesOf s).length) (.int .i32 0)) e) none
    exact ⟨g.os, g.tape, g.output, g.size, g.block⟩
variable {Kc : Act → World → Prop}
theorem Kd.R_runes_step {w0 W : World} (base e : Nat) (hw : Region.wanted o (yielded ops a.tmps) = true) {N : Tmp} (_hd : o.dst = some N) (src t : TypeId) (x : Operand) (ho : o.op = .convert src t x) (s : ByteArray) (hx : a.eval x = .string s)
    (hs : P.underlying src = some .string) (ht : P.underlying t = some (.slice e)) (he : P.underlying e = some (.int .i32)) (hl : s.size ≤ 70368744177664) {ok : Nat → Prop} (hfresh : ok W.heap.size) (HB : Below base w0 W) (hbase : base ≤ W.heap.size)
    (h : ∀ v1 w1, (Kd.int .i32).R e w1 base ok v1 (runesOf s) → Below base w0 w1 → W.grownBy w1 none → (∃ b, v1.ownBlock = some b ∧ W.heap.size ≤ b) → Kc (a.put o.dst v1) w1) : if Region.wanted o (yielded ops a.tmps) = true then Oper.wp P o a W Kc Q else Kc (a.put o.dst undef) W := by
  have hlen := runesOf_length s
  have hsz : (Conv.runesFrom s s.size 0 #[]).size = (runesOf s).length := by rw [runesFrom_eq]; simp [nums_length]
  have hr := run_runes_of_string (P := P) W src t e s hs ht he (by rw [hsz]; omega)
  have hge := grownCap_ge W (runesOf s).length 0 e
  have hle := grownCap_le_maxLen W (runesOf s).length 0 e (by simp only [maxLen]; omega)
  rw [hsz] at hr
  have hrun : (execOp a.eval o).run P W = .ok (.value (.slice (some ⟨W.heap.size, 0, none⟩) (runesOf s).length (grownCap W (runesOf s).length 0 e))) (W.drew.alloc (.cells (Conv.runesFrom s s.size 0 #[] ++ Array.replicate (grownCap W (runesOf s).length 0 e - (runesOf s).length) (.int .i32 0)) e)) := by
    simp [execOp, ho, hx, hr]
  refine event_step hw hrun (h _ _ (Kd.R_of_own ?_ ?_) ?_ ?_ ⟨W.heap.size, by simp [Value.ownBlock], Nat.le_refl _⟩)
  · refine ⟨by simp [encs], .inr ⟨W.heap.size, _, _, rfl, hbase, heap_alloc_new W.drew _, hge, hle, ?_, ?_⟩⟩
    · rw [Array.size_append, hsz, Array.size_replicate]; omega
    · rw [runesFrom_eq, Array.toList_append, Nat.mul_one]
      exact List.take_left' (by simp [nums_length])
  · intro k hk
    have : W.heap.size = k := by simpa [Value.ownBlock] using hk
    subst this
    exact hfresh
  · exact (below_drew1 HB).alloc hbase _
  · have g := World.grownBy_alloc W.drew (.cells (Conv.runesFrom s s.size 0 #[] ++ Array.replicate (grownCap W (runesOf s).length 0 e - (runesOf s).length) (.int .i32 0)) e) none
    exact ⟨g.os, g.tape, g.output, g.size, g.block⟩
end
theorem nums_getD (k : IntKind) (xs : List Int) (i : Nat) (h : i < xs.length) : (nums k xs)[i]? = some (.int k (xs.getD i 0)) := by
  simp [nums, List.getElem?_eq_getElem h, List.getD_eq_getElem?_getD]
/-- 'string(rs)' of a row that is read. -/
theorem Kd.C_runes {P : Program} {w : World} {A : Option Addr} {n c : Nat} {xs : List Int} {src dst e : TypeId} (hs : P.underlying src = some (.slice e)) (he : P.underlying e = some (.int .i32)) (hd : P.underlying dst = some .string)
    (h : (Kd.int .i32).C w A n xs) : (convert src dst (.slice A n c)).run P w = .ok (.string (runesBytes xs)) w := by
  have hr := Kd.reads_of_C (enc := Value.int .i32) (d := (0 : Int)) (h1 := fun _ => rfl) h
  obtain ⟨h1, h2, h3⟩ := hr
  rcases A with _ | ad
  · have : n = 0 := by
      rcases Nat.eq_zero_or_pos n with h0 | h0
      · exact h0
      · obtain ⟨ad, e, _⟩ := h3 h0; cases e
    subst this
    obtain rfl : xs = [] := List.eq_nil_of_length_eq_zero h1
    exact run_convert_runes_nil w src dst e 0 c hs he hd
  · have := run_convert_runes (P := P) w src dst e ad n c xs (by omega) hs he hd (fun j hj => by
      obtain ⟨ad', e', hc⟩ := h3 (by omega)
      cases e'
      exact hc j (by omega))
    rw [this, List.take_of_length_le (by omega)]
theorem own_runes {P : Program} {w : World} {base : Nat} {e' src dst e : TypeId} {v : Value} {xs : List Int} {ok : Nat → Prop} (hs : P.underlying src = some (.slice e)) (he : P.underlying e = some (.int .i32)) (hd : P.underlying dst = some .string)
    (h : (Kd.int .i32).R e' w base ok v xs) : (convert src dst v).run P w = .ok (.string (runesBytes xs)) w := by
  obtain ⟨A, c, rfl, _, hC⟩ := Kd.R_reads h
  exact Kd.C_runes hs he hd hC
end Go.Proofs.YtcjedinpiedhcaaDoorX
