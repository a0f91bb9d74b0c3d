/- '[]byte(s)': a row of the call's own that the model marks behind its end: the class B beside the print's R. -/
import Derived.Test.YtcjedinpiedhcaaWMore
import Derived.Lib.ConvBytes
namespace Go.Proofs.YtcjedinpiedhcaaB
open Go.RowKit Go.Proofs.YtcjedinpiedhcaaW.PrintWords Go.Proofs.YtcjedinpiedhcaaW.PrintLast Go.Proofs.YtcjedinpiedhcaaW.PrintMore
set_option linter.unusedVariables false

/-- A row of bytes of the call's own, marked behind its end. -/
def Kd.B (d : Kd Int) (e : Nat) (w : World) (base : Nat) (ok : Nat → Prop) (v : Value) (xs : List Int) : Prop :=
  ∃ (g cap : Nat) (cs : Array Value), v = .slice (some ⟨g, 0, none⟩) xs.length cap ∧ ok g ∧ base ≤ g ∧ xs.length ≤ cap ∧ w.heap[g]? = some (.cells cs e (cs.size, cs.size + 1)) ∧ (xs.length ≤ cs.size ∧ xs.length ≤ 9223372036854775807) ∧ ∀ i, i < xs.length → cs[i]? = some (.int .u8 (xs.getD i 0))
section
variable {d : Kd Int} {e : Nat} {w w1 W : World} {base : Nat} {ok ok' : Nat → Prop} {v u : Value} {xs : List Int} {g n cap : Nat}
theorem lt_of_at {w : World} {g : Nat} {o : Obj} (h : w.heap[g]? = some o) : g < w.heap.size := by
  rcases Nat.lt_or_ge g w.heap.size with h' | h'
  · exact h'
  · rw [Array.getElem?_eq_none h'] at h
    cases h
theorem Kd.B_step (h : Kd.B d e w base ok v xs) (hm : ∀ k, v.ownBlock = some k → k < w.heap.size → w1.heap[k]? = w.heap[k]?) : Kd.B d e w1 base ok v xs := by
  obtain ⟨g, cap, cs, rfl, h1, h2, h3, h4, h5, h6⟩ := h
  exact ⟨g, cap, cs, rfl, h1, h2, h3, (hm g (by simp [Value.ownBlock]) (lt_of_at h4)).trans h4, h5, h6⟩
theorem Kd.B_below (h : Kd.B d e w base ok v xs) (hb : Below w.heap.size w w1) : Kd.B d e w1 base ok v xs := Kd.B_step h (fun k _ hk => hb.block k hk)
theorem Kd.B_alloc (h : Kd.B d e w base ok v xs) (o : Obj) : Kd.B d e (w.alloc o) base ok v xs := Kd.B_below h (below_alloc (Below.refl _ _) o)
theorem Kd.B_drew (h : Kd.B d e w base ok v xs) : Kd.B d e w.drew base ok v xs := Kd.B_below h (below_drew (Below.refl _ _))
theorem Kd.B_drewN (h : Kd.B d e w base ok v xs) (m : Nat) : Kd.B d e (w.drewN m) base ok v xs := Kd.B_below h (pw_below_drewN (Below.refl _ _) m)
theorem Kd.B_setdrewN {p : Addr} {y : Value} (h : Kd.B d e (w.setCell p y) base ok v xs) (m : Nat) : Kd.B d e ((w.drewN m).setCell p y) base ok v xs := by
  obtain ⟨g, cap, cs, rfl, h1, h2, h3, h4, h5⟩ := h
  exact ⟨g, cap, cs, rfl, h1, h2, h3, h4, h5⟩
theorem Kd.B_setdrew {p : Addr} {y : Value} (h : Kd.B d e (w.setCell p y) base ok v xs) : Kd.B d e (w.drew.setCell p y) base ok v xs := by
  obtain ⟨g, cap, cs, rfl, h1, h2, h3, h4, h5⟩ := h
  exact ⟨g, cap, cs, rfl, h1, h2, h3, h4, h5⟩
theorem Kd.B_lower {base' : Nat} (h : Kd.B d e w base ok v xs) (hb : base' ≤ base) : Kd.B d e w base' ok v xs := by
  obtain ⟨g, cap, cs, rfl, h1, h2, h3⟩ := h
  exact ⟨g, cap, cs, rfl, h1, Nat.le_trans hb h2, h3⟩
theorem Kd.B_mono (h : Kd.B d e w base ok v xs) (hok : ∀ k, ok k → ok' k) : Kd.B d e w base ok' v xs := by
  obtain ⟨g, cap, cs, rfl, h1, h3⟩ := h
  exact ⟨g, cap, cs, rfl, hok _ h1, h3⟩
theorem Kd.B_form (h : Kd.B d e w base ok v xs) (hp : 0 < xs.length) : ∃ g cap, v = .slice (some ⟨g, 0, none⟩) xs.length cap ∧ base ≤ g ∧ g < w.heap.size ∧ ∃ cells, w.heap[g]? = some (.cells cells e (cells.size, cells.size + 1)) := by
  obtain ⟨g, cap, cs, rfl, h1, h2, h3, h4, _⟩ := h
  exact ⟨g, cap, rfl, h2, lt_of_at h4, cs, h4⟩
theorem Kd.B_slice (h : Kd.B d e w base ok v xs) : ∃ A c, v = .slice A xs.length c := by
  obtain ⟨g, cap, cs, rfl, _⟩ := h
  exact ⟨_, _, rfl⟩
theorem Kd.B_reads' {A : Option Addr} {n c : Nat} (h : Kd.B (Kd.int .u8) e w base ok (.slice A n c) xs) : n = xs.length ∧ n ≤ c ∧ (Kd.int .u8).C w A xs.length xs := by
  obtain ⟨g, cap, cs, e1, h1, h2, h3, h4, h5, h6⟩ := h
  injection e1 with e1 e2 e3
  subst e1 e2 e3
  refine ⟨rfl, h3, Kd.C_of_reads (enc := Value.int .u8) (d := (0 : Int)) (h1 := fun _ => rfl) ⟨rfl, h5.2, fun h0 => ⟨⟨g, 0, none⟩, rfl, fun j hj => ?_⟩⟩⟩
  have ha : (⟨g, 0, none⟩ : Addr).add j = ⟨g, j, none⟩ := by unfold Addr.add; split <;> simp_all
  rw [ha]
  simp only [World.cell?, h4]
  exact h6 j hj
theorem Kd.B_celln (d0 : Int) (h : Kd.B (Kd.int .u8) e W base ok (.slice (some ⟨g, 0, none⟩) n cap) xs) (i : Int) (h0 : 0 ≤ i) (hi : i < n) : W.cell? ⟨g, i.toNat, none⟩ = some (.int .u8 (rdOf d0 xs i)) ∧ W.frozen? ⟨g, i.toNat, none⟩ = false := by
  obtain ⟨g', cap', cs, e1, h1, h2, h3, h4, h5, h6⟩ := h
  injection e1 with e1 e2 e3
  injection e1 with e1
  injection e1 with e1
  subst e1 e2 e3
  refine ⟨?_, ?_⟩
  · simp only [World.cell?, h4]
    have hl : i.toNat < xs.length := by omega
    rw [if_neg (by simp), h6 i.toNat hl]
    simp [rdOf, List.getD_eq_getElem?_getD, List.getElem?_eq_getElem hl]
  · simp only [World.frozen?, h4]
    rw [decide_eq_false (by omega)]
    rfl
theorem Kd.B_putn (h : Kd.B (Kd.int .u8) e W base ok (.slice (some ⟨g, 0, none⟩) n cap) xs) (i : Int) (x : Int) : Kd.B (Kd.int .u8) e (W.setCell ⟨g, i.toNat, none⟩ (.int .u8 x)) base ok (.slice (some ⟨g, 0, none⟩) n cap) (xs.set i.toNat x) := by
  obtain ⟨g', cap', cs, e1, h1, h2, h3, h4, h5, h6⟩ := h
  injection e1 with e1 e2 e3
  injection e1 with e1
  injection e1 with e1
  subst e1 e2 e3
  refine ⟨g, cap, cs.setIfInBounds i.toNat (.int .u8 x), by rw [List.length_set], h1, h2, by rw [List.length_set]; exact h3, ?_, by rw [List.length_set, Array.size_setIfInBounds]; exact h5, ?_⟩
  · simp [World.setCell, Array.getElem?_modify, h4]
  · intro j hj
    rw [List.length_set] at hj
    rw [Array.getElem?_setIfInBounds, List.getD_eq_getElem?_getD, List.getElem?_set]
    by_cases c : i.toNat = j
    · rw [if_pos c, if_pos c, if_pos (by omega), if_pos (by omega)]
      rfl
    · rw [if_neg c, if_neg c, h6 j hj, List.getD_eq_getElem?_getD]
theorem Kd.B_ne (h : Kd.B d e w base ok v xs) {g t : Nat} {cells : Array Value} (hb : w.heap[g]? = some (.cells cells t (0, 0))) (ht : e ≠ t) : some g ≠ v.ownBlock := by
  obtain ⟨g', cap', cs, rfl, h1, h2, h3, h4, _⟩ := h
  intro he
  have : g = g' := by simpa [Value.ownBlock] using he
  subst this
  rw [hb] at h4
  injection h4 with h4
  injection h4 with _ h5
  exact ht h5.symm
theorem Kd.B_over' {e' : Nat} (h : Kd.B d e W base ok u xs) (hty : ∀ k, v.ownBlock = some k → ∃ cells, W.heap[k]? = some (.cells cells e' (0, 0))) (ht : ∀ q, q ∈ e :: d.E → q ≠ e') (hg : W.grownBy w1 v.ownBlock) : Kd.B d e w1 base ok u xs := by
  refine Kd.B_step h fun k hk hlt => hg.block k hlt fun he => ?_
  obtain ⟨cells, hc⟩ := hty k he.symm
  exact Kd.B_ne h hc (ht e List.mem_cons_self) hk.symm
theorem Kd.B_types (h : Kd.B d e w base ok v xs) {g t : Nat} {cells : Array Value} (hb : w.heap[g]? = some (.cells cells t (0, 0))) (ht : ∀ q, q ∈ e :: d.E → q ≠ t) : Kd.B d e w base (fun k => ok k ∧ k ≠ g) v xs := by
  have hn := Kd.B_ne h hb (ht e List.mem_cons_self)
  obtain ⟨g', cap, cs, rfl, h1, h3⟩ := h
  exact ⟨g', cap, cs, rfl, ⟨h1, fun he => hn (by rw [← he]; rfl)⟩, h3⟩
theorem Kd.B_far (h : Kd.B d e w base ok v xs) {p : Addr} (hok : ∀ k, ok k → k ≠ p.block) (y : Value) : Kd.B d e (w.setCell p y) base ok v xs := by
  obtain ⟨g', cap, cs, rfl, h1, h2, h3, h4, h5⟩ := h
  refine ⟨g', cap, cs, rfl, h1, h2, h3, ?_, h5⟩
  have hn : p.block ≠ g' := fun he => hok g' h1 he.symm
  simp only [World.setCell, Array.getElem?_modify, if_neg hn]
  exact h4
/-- A row of the print's own class is none that is marked. -/
theorem Kd.R_typesB {α : Type} {d : Kd α} {ys : List α} (h : d.R e w base ok v ys) {g t : Nat} {cells : Array Value} (hb : w.heap[g]? = some (.cells cells t (cells.size, cells.size + 1))) (ht : ∀ q, q ∈ e :: d.E → q ≠ t) : d.R e w base (fun k => ok k ∧ k ≠ g) v ys :=
  Kd.R_mono (Kd.R_bound h) (fun k hk => ⟨hk.1, by
    obtain ⟨_, _, _, q, hq, cells', hc⟩ := hk
    rintro rfl
    rw [hb] at hc
    injection hc with hc
    injection hc with _ h5
    exact ht q hq h5.symm⟩)
theorem own_bstring {P : Program} {e' src dst e : TypeId} (hs : P.underlying src = some (.slice e)) (he : P.underlying e = some (.int .u8)) (hd : P.underlying dst = some .string)
    (h : Kd.B (Kd.int .u8) e' w base ok v xs) : (convert src dst v).run P w = .ok (.string (strOfNums xs)) w := by
  obtain ⟨A, c, rfl⟩ := Kd.B_slice h
  exact Kd.C_string hs he hd (Kd.B_reads' h).2.2
end
section
variable {P : Program} {ops : Array Oper} {rest : List Oper} {o : Oper} {a : Act} {Q : Exit → Act → World → Prop} {Kc : Act → World → Prop}
theorem bytes_new {w0 W : World} (base e : Nat) (s : ByteArray) (hl : s.size ≤ 70368744177664) {ok : Nat → Prop} (hfresh : ok W.heap.size) (HB : Below base w0 W) (hbase : base ≤ W.heap.size) :
    Kd.B (Kd.int .u8) e (Lib.bytesWorld W e s) base ok (.slice (some ⟨W.heap.size, 0, none⟩) s.size (grownCap W s.size 0 e)) (bytesOf s) ∧ Below base w0 (Lib.bytesWorld W e s) ∧ W.grownBy (Lib.bytesWorld W e s) none ∧ (∃ b, (Value.slice (some ⟨W.heap.size, 0, none⟩) s.size (grownCap W s.size 0 e)).ownBlock = some b ∧ W.heap.size ≤ b) := by
  have hc : (Lib.bytesCells W e s).size = s.size + (grownCap W s.size 0 e - s.size) := by
    have e2 : s.data.size = s.size := rfl
    simp [Lib.bytesCells, e2]
  refine ⟨?_, ?_, ?_, W.heap.size, by simp [Value.ownBlock], Nat.le_refl _⟩
  · refine ⟨W.heap.size, _, Lib.bytesCells W e s, by rw [bytesOf_length], hfresh, hbase, by rw [bytesOf_length]; exact grownCap_ge W s.size 0 e, Lib.bytesWorld_at_new W e s, by rw [bytesOf_length]; omega, fun i hi => ?_⟩
    rw [bytesOf_length] at hi
    have h1 := Lib.bytesWorld_cell W e s i hi
    simp only [World.cell?, Lib.bytesWorld_at_new] at h1
    rw [if_neg (by simp)] at h1
    rw [h1]
    have hi2 : i < s.data.toList.length := by simpa using hi
    simp [bytesOf, List.getD_eq_getElem?_getD, List.getElem?_map, List.getElem?_eq_getElem hi2]
  · exact ⟨HB.os, HB.tape, HB.output, by rw [Lib.bytesWorld_size]; have := HB.size; omega, fun k hk => (Lib.bytesWorld_at_old W e s k (by omega)).trans (HB.block k hk)⟩
  · exact ⟨rfl, rfl, rfl, by rw [Lib.bytesWorld_size]; omega, fun k hk _ => Lib.bytesWorld_at_old W e s k hk⟩
theorem Kd.B_tostr {W : World} (hgd : o.guard = none) {N : Tmp} (_hd : o.dst = some N) (src t e : TypeId) (x : Operand) (ho : o.op = .convert src t x) {v : Value} (hs : P.underlying src = some (.slice e)) (he : P.underlying e = some (.int .u8)) (hd : P.underlying t = some .string)
    {e' base : Nat} {ok : Nat → Prop} (xs : List Int) (hB : Kd.B (Kd.int .u8) e' W base ok v xs) (hx : a.eval x = v) (h : wpList P ops Q rest (a.put o.dst (.string (strOfNums xs))) W) : wpList P ops Q (o :: rest) a W :=
  Kd.event_run hgd (by simp [execOp, ho, hx, own_bstring hs he hd hB]) h
theorem Kd.B_bytes {w0 W : World} (base e : Nat) (hgd : o.guard = none) {N : Tmp} (_hd : o.dst = some N) (src t : TypeId) (x : Operand) (ho : o.op = .convert src t x) (s : ByteArray) (hx : a.eval x = .string s)
    (hs : P.underlying src = some .string) (ht : P.underlying t = some (.slice e)) (he : P.underlying e = some (.int .u8)) (hl : s.size ≤ 70368744177664) {ok : Nat → Prop} (hfresh : ok W.heap.size) (HB : Below base w0 W) (hbase : base ≤ W.heap.size)
    (h : ∀ v1 w1, Kd.B (Kd.int .u8) e w1 base ok v1 (bytesOf s) → Below base w0 w1 → W.grownBy w1 none → (∃ b, v1.ownBlock = some b ∧ W.heap.size ≤ b) → wpList P ops Q rest (a.put o.dst v1) w1) : wpList P ops Q (o :: rest) a W := by
  obtain ⟨h1, h2, h3, h4⟩ := bytes_new base e s hl hfresh HB hbase
  exact Kd.event_run hgd (by simp [execOp, ho, hx, Lib.run_convert_string_bytes W src t e s hs ht he]) (h _ _ h1 h2 h3 h4)
theorem Kd.B_bytes_step {w0 W : World} (base e : Nat) (hw : Region.wanted o (yielded ops a.tmps) = true) {N : Tmp} (_hd : o.dst = some N) (src t : TypeId) (x : Operand) (ho : o.op = .convert src t x) (s : ByteArray) (hx : a.eval x = .string s)
    (hs : P.underlying src = some .string) (ht : P.underlying t = some (.slice e)) (he : P.underlying e = some (.int .u8)) (hl : s.size ≤ 70368744177664) {ok : Nat → Prop} (hfresh : ok W.heap.size) (HB : Below base w0 W) (hbase : base ≤ W.heap.size)
    (h : ∀ v1 w1, Kd.B (Kd.int .u8) e w1 base ok v1 (bytesOf s) → Below base w0 w1 → W.grownBy w1 none → (∃ b, v1.ownBlock = some b ∧ W.heap.size ≤ b) → Kc (a.put o.dst v1) w1) : if Region.wanted o (yielded ops a.tmps) = true then Oper.wp P o a W Kc Q else Kc (a.put o.dst undef) W := by
  obtain ⟨h1, h2, h3, h4⟩ := bytes_new base e s hl hfresh HB hbase
  exact event_step hw (by simp [execOp, ho, hx, Lib.run_convert_string_bytes W src t e s hs ht he]) (h _ _ h1 h2 h3 h4)
end
end Go.Proofs.YtcjedinpiedhcaaB
