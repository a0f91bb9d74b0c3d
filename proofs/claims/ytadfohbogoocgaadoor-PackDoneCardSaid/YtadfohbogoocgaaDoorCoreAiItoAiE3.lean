/- A part of the proof: what the program does, step by step, over values without addresses. No conditions of mine. -/
import Derived.Test.YtadfohbogoocgaaDoorAiH
import Derived.Test.YtadfohbogoocgaaDoorAiE2
set_option linter.unusedVariables false
set_option linter.unusedSimpArgs false
namespace Go.Ai
open Go Go.RowKit
set_option linter.unusedSimpArgs false
variable {P : Program} {h : Nat → Option Blk} {site : Nat}
theorem byteCells_str {l : List Int} (hl : Bytes l) : byteCells (strOfNums l) = l.map u8 := by
  have h := bytesOf_str hl
  unfold byteCells u8
  conv => rhs; rw [← h]
  unfold bytesOf
  rw [List.map_map]; rfl
/-- []byte(s) -/
theorem ef_bytes {S T Et : TypeId} {x : Operand} (l : List Int) (hl : Bytes l) (hS : P.underlying S = some .string) (hT : P.underlying T = some (.slice Et)) (hE : P.underlying Et = some (.int .u8)) (hs : sizeT P Et = some 1) :
    eff P site (.convert S T x) [.val (.string (strOfNums l))] h = some (.sl (newId site 0) (nextVer h (newId site 0)) 0 l.length, [mk h (newId site 0) 1 true (l.map u8)]) := by
  have e : effConv P site S T (.val (.string (strOfNums l))) h = some (.sl (newId site 0) (nextVer h (newId site 0)) 0 l.length, [mk h (newId site 0) 1 true (l.map u8)]) := by
    simp only [effConv, hS, hT, hE, hs, strOfNums_size, byteCells_str hl]
  rw [← e]; rfl
/-- &l[i] of a block of the call's own, from its begin. -/
theorem ef_ixn {T Et : TypeId} {x ix : Operand} {b ver len : Nat} {k : Blk} {kk : IntKind} {n : Int} (i : Nat) (hk : live h b ver = some k) (hE : elemT P T = some Et) (hs : sizeT P Et = some k.sz) (hn : n = (i : Int)) (hi : i < len) (hl : len ≤ k.es.length) :
    eff P site (.indexAddr T x ix) [.sl b ver 0 len, .val (.int kk n)] h = some (.ptr b ver i 0, []) := by
  subst hn
  have := ef_ixs (P := P) (site := site) (T := T) (x := x) (ix := ix) (kk := kk) (n := (i : Int)) (off := 0) hk hE hs (by omega) (by simpa using hi) (by simpa using hl)
  rw [this]
  simp
/-- a load of a row's element -/
theorem ef_ldn {T : TypeId} {x : Operand} {b ver i : Nat} {k : Blk} {e : List V} {v : V} (hk : live h b ver = some k) (he : k.es[i]? = some e) (hp : partV P T e = some v) : eff P site (.load T x) [.ptr b ver i 0] h = some (v, []) := by
  have : effLoad P T (.ptr b ver i 0) h = some v := by
    simp only [effLoad, hk, he, List.drop_zero, hp]
  show same (effLoad P T (.ptr b ver i 0) h) = _
  rw [this]; rfl
/-- a store of a row's element of one cell -/
theorem ef_stn {T : TypeId} {x y : Operand} {b ver i : Nat} {k : Blk} {e : List V} {v : V} (hk : live h b ver = some k) (he : k.es[i]? = some e) (hs : sizeT P T = some 1) (hc : (k.wr && decide ((vcells v).length = 1) && decide (1 ≤ e.length) && (vcells v).all cellOk) = true) :
    eff P site (.store T x y) [.ptr b ver i 0, v] h = some (.any, [(b, { k with es := k.es.set i (splice e 0 (vcells v)), cl := k.cl && (vcells v).all clo0 })]) := by
  simp only [Bool.and_eq_true, decide_eq_true_eq] at hc
  obtain ⟨⟨⟨c1, c2⟩, c3⟩, c4⟩ := hc
  show effStore P T (.ptr b ver i 0) v h = _
  simp only [effStore, hk, hs, he]
  rw [if_pos ⟨c1, c2, by simpa using c3, c4⟩]
/-- of bytes -/
theorem ef_ld8 {T : TypeId} {x : Operand} {b ver i : Nat} {k : Blk} {l : List Int} {z : Int} (hk : live h b ver = some k) (hes : k.es = l.map u8) (hz : l[i]? = some z) (hu : P.underlying T = some (.int .u8)) (hs : sizeT P T = some 1) : eff P site (.load T x) [.ptr b ver i 0] h = some (.val (.int .u8 z), []) := by
  refine ef_ldn hk (e := u8 z) (by rw [hes, List.getElem?_map, hz]; rfl) ?_
  simp only [partV, hu, hs, isAggD, u8]
  rfl
theorem ef_st8 {T : TypeId} {x y : Operand} {b ver i sz : Nat} {w c : Bool} {l : List Int} {z z' : Int} (hk : live h b ver = some ⟨ver, sz, w, c, l.map u8⟩) (hz : l[i]? = some z) (hs : sizeT P T = some 1) (hw : w = true) :
    eff P site (.store T x y) [.ptr b ver i 0, .val (.int .u8 z')] h = some (.any, [(b, ⟨ver, sz, w, c && true, (l.set i z').map u8⟩)]) := by
  have := ef_stn (P := P) (site := site) (T := T) (x := x) (y := y) (e := u8 z) (v := .val (.int .u8 z')) hk (by show (l.map u8)[i]? = _; rw [List.getElem?_map, hz]; rfl) hs (by subst hw; rfl)
  rw [this]
  congr 3
  rw [List.map_set]; rfl
end Go.Ai

namespace Go.Ai
open Go Go.RowKit
variable {P : Program} {X : FuncId → List V → List (Nat × List V) → V → List (Nat × List V) → List Blk → Prop}
/-- A call's end that hands over a block. -/
theorem ret_outs {fn : Func} {σ : St} {b ver len : Nat} {k : Blk} (h1 : resL P fn σ fn.results.toList = some [.sl b ver 0 len]) (hk : live σ.h b ver = some k) (hc : (k.wr && k.cl && b % 2 == 0) = true) (hl : len ≤ k.es.length) {outs : List Blk} (ho : [outBlk k] = outs) :
    retQ P fn 0 (.sl 0 0 0 len) [] outs .ret σ := by
  subst ho
  exact ret_out h1 hk hc hl
end Go.Ai
