/- A part of the proof: what the program does, step by step, over values without addresses. No conditions of mine. -/
import Derived.Test.YtadfohbogoocgaaN51
import Derived.Test.YtadfohbogoocgaaN46
set_option linter.unusedVariables false
set_option linter.unusedSimpArgs false
namespace Go.Ai
open Go Go.RowKit Go.Proofs Go.Sp
variable {X : FuncId → List V → List (Nat × List V) → V → List (Nat × List V) → List Blk → Prop}
set_option maxRecDepth 10000
set_option maxHeartbeats 4000000
set_option linter.unusedVariables false
set_option linter.unusedSimpArgs false
/-- A call that reads blocks of the caller's own and hands over others. -/
theorem ao_outs {P : Program} {nt rid : Nat} {ops : Array Oper} {i : Nat} {l : List Nat} {σ : St} {Q : List Rec → St → Prop} {o : Oper} {fo : Operand} {args : Array Operand} {ats : Array TypeId} {f : FuncId} {aa : List V} {sn : List Nat} {res v : V} {outs : List Blk} {ups : List (Nat × Blk)}
    (ho : ops[i]? = some o) (hg : guardV ops σ.s o = some true) (hd : dstOk nt o = true) (hop : o.op = .call ⟨.value fo, args, ats⟩) (hf : calleeOf (evalO σ.s fo) = some f)
    (hp : prep σ.h (args.toList.map (evalO σ.s)) 0 = some ⟨aa, [], sn⟩) (hk : prepOk (siteOf rid i) ⟨aa, [], sn⟩ = true) (hc : AC P X f aa [] res [] outs) (hv : rn (siteOf rid i) σ.h res = v) (hu : callUps (siteOf rid i) σ.h ⟨aa, [], sn⟩ res [] outs = ups)
    (h : AO P X nt rid ops l (σ.to' o.dst v ups) (fun recs σ' => Q (recDo i o (siteOf rid i) (valsOf o σ.s) σ.h v ups :: recs) σ')) : AO P X nt rid ops (i :: l) σ Q := by
  obtain ⟨h1, h2, h3, h4⟩ := hc
  refine ao_call ho hg hd hop hf h1 hp hk h4 rfl h3 ?_
  rw [hv, hu]; exact h
theorem ef_ldoff {P : Program} {h : Nat → Option Blk} {site : Nat} {T : TypeId} {x : Operand} {b ver i off : Nat} {k : Blk} {e : List V} {v : V} (hk : live h b ver = some k) (he : k.es[i]? = some e) (hp : partV P T (e.drop off) = some v) : eff P site (.load T x) [.ptr b ver i off] h = some (v, []) := by
  have : effLoad P T (.ptr b ver i off) h = some v := by
    simp only [effLoad, hk, he, hp]
  show same (effLoad P T (.ptr b ver i off) h) = _
  rw [this]; rfl
/-- a store of a part of an element of a row -/
theorem ef_stpart {P : Program} {h : Nat → Option Blk} {site : Nat} {α : Type} (enc : α → List V) (l : List α) (a a' : α) {T : TypeId} {x y : Operand} {b ver i off sz n : Nat} {w c : Bool} {v : V} (hk : live h b ver = some ⟨ver, sz, w, c, l.map enc⟩) (ha : l[i]? = some a) (hs : sizeT P T = some n) (hn : (vcells v).length = n)
    (hfit : off + n ≤ (enc a).length) (hc : (w && (vcells v).all cellOk && (vcells v).all clo0) = true) (hsp : splice (enc a) off (vcells v) = enc a') :
    eff P site (.store T x y) [.ptr b ver i off, v] h = some (.any, [(b, ⟨ver, sz, w, c && true, (l.set i a').map enc⟩)]) := by
  simp only [Bool.and_eq_true] at hc
  obtain ⟨⟨c1, c2⟩, c3⟩ := hc
  have hg : (l.map enc)[i]? = some (enc a) := by rw [List.getElem?_map, ha]; rfl
  show effStore P T (.ptr b ver i off) v h = _
  simp only [effStore, hk, hs, hg]
  rw [if_pos ⟨c1, hn, hfit, c2⟩]
  show some (V.any, [(b, ({ ver := ver, sz := sz, wr := w, cl := c && (vcells v).all clo0, es := (l.map enc).set i (splice (enc a) off (vcells v)) } : Blk))]) = _
  rw [hsp, c3, List.map_set]
/-- the first so many of a row of one's own -/
theorem ef_cut {P : Program} {h : Nat → Option Blk} {site : Nat} {T Et : TypeId} {x y : Operand} {b ver len n : Nat} {k : Blk} {kk : IntKind} {m : Int} (hm : m = (n : Int)) (hE : elemT P T = some Et) (hk : live h b ver = some k) (hs : sizeT P Et = some k.sz) (h0 : 0 < n) (hl : n ≤ len) :
    eff P site (.slice T x none (some y) none) [.sl b ver 0 len, .val (.int kk m)] h = some (.sl b ver 0 n, []) := by
  have e : effSlice P T (.sl b ver 0 len) (some (0, some n, false)) h = some (.sl b ver 0 n) := by
    unfold effSlice
    simp only [hE, hk, hs]
    simp [h0, hl]
  show same (effSlice P T (.sl b ver 0 len) (bnds none (some y) none [.val (.int kk m)]) h) = _
  rw [nb_hi hm, e]; rfl
/-- A list of the call's own that is written no more: its first so many. -/
theorem ren_frzT {h : Nat → Option Blk} {H : List (Nat × Blk)} {α : Type} (enc : α → List V) (l l' : List α) {b ver len : Nat} {k : Blk} {sz : Nat} (hk : live h b ver = some k) (hc : (k.cl && b % 2 == 0) = true) (hes : k.es = l.map enc) (hlen : len ≤ l.length) (hl' : l.take len = l') (hs : k.sz = sz) (hd : HH (odds h) H b = none) :
    Ren h H (.sl b ver 0 len) (.isl sz (l'.map enc)) := by
  simp only [Bool.and_eq_true, beq_iff_eq] at hc
  subst hl'
  refine .frz _ _ _ _ _ ?_ hd
  unfold close0
  simp only [hk]
  rw [if_pos ⟨hc.1, by rw [hes, List.length_map]; omega, hc.2⟩, hes, hs, List.drop_zero, ← List.map_take]
/-- A call's end that hands over a block, and a plain value beside it. -/
theorem ret_outv {P : Program} {fn : Func} {σ : St} {b ver len : Nat} {k : Blk} {v : Value} (h1 : resL P fn σ fn.results.toList = some [.sl b ver 0 len, .val v]) (hk : live σ.h b ver = some k) (hc : (k.wr && k.cl && b % 2 == 0) = true) (hl : len ≤ k.es.length) {outs : List Blk} (ho : [outBlk k] = outs) :
    retQ P fn 0 (.tup [.sl 0 0 0 len, .val v]) [] outs .ret σ := by
  subst ho
  have hcl : closeR σ.h [.sl b ver 0 len, .val v] [] = some ([.sl 0 0 0 len, .val v], [b], []) := by
    simp only [Bool.and_eq_true, beq_iff_eq] at hc
    have e : outOf σ.h [] (.sl b ver 0 len) = some (b, len) := by
      simp only [outOf, hk]
      rw [if_pos ⟨hc.1.1, hc.1.2, hl, hc.2, by simp⟩]
    simp only [closeR, e]
    rfl
  refine ⟨.inr rfl, _, _, _, _, _, h1, hcl, rfl, rfl, rfl, ?_⟩
  simp [outsOf, (live_some hk).1]
theorem concatKOut (a b : List K) (ha : a.length ≤ 1000) (hb : b.length ≤ 1000) (h0 : 0 < (a ++ b).length) : AC Try.prog X 56 [.isl 1 [[.isl 4 (a.map kC)], [.isl 4 (b.map kC)]]] [] (.sl 0 0 0 (a ++ b).length) [] [⟨0, 4, true, true, (a ++ b).map kC⟩] := by
  have hla : (a.map kC).length = a.length := List.length_map ..
  have hlb : (b.map kC).length = b.length := List.length_map ..
  have hab : (a ++ b).length = a.length + b.length := List.length_append
  have w1 : IntKind.i64.wrap (0 + (((a.map kC).length : Nat) : Int)) = (a.length : Int) := by rw [wr64, w64 (by omega) (by omega)]; omega
  have w2 : IntKind.i64.wrap ((a.length : Int) + (((b.map kC).length : Nat) : Int)) = ((a ++ b).length : Nat) := by rw [wr64, w64 (by omega) (by omega)]; omega
  refine ac_mk (by kernel_rfl) Try.func56 rfl (lb rfl) rfl rfl ?_
  repeat (first | refine ao_as (vi a.length) rfl rfl rfl rfl (congrArg vi w1) ?_ | refine ao_as (vi (a ++ b).length) rfl rfl rfl rfl (congrArg vi w2) ?_ | refine aw_loop ?_ | refine ao_e rfl rfl rfl rfl rfl ?_ | refine ao_eff (v := V.val (Value.bool true)) (ups := []) rfl rfl rfl rfl ?_ | refine ao_eff (v := V.val (Value.bool false)) (ups := []) rfl rfl rfl rfl ?_ | refine aw_seq ?_ | refine aw_region ?_ | refine aw_block ?_ | refine ao_nil ⟨fun h => (Bool.false_ne_true h).elim, ?_⟩ | refine ao_nil ⟨fun _ => ⟨by kernel_rfl, by kernel_rfl⟩, ?_⟩ | refine ao_skip rfl rfl rfl ?_ | refine aw_true rfl ?_ | refine aw_false rfl ?_ | refine aw_skip ?_ | refine aw_exit ?_)
  refine ao_out rfl rfl rfl rfl rfl rfl (growNil _ h0 (by omega)) ?_
  repeat (first | refine aw_loop ?_ | refine ao_e rfl rfl rfl rfl rfl ?_ | refine ao_eff (v := V.val (Value.bool true)) (ups := []) rfl rfl rfl rfl ?_ | refine ao_eff (v := V.val (Value.bool false)) (ups := []) rfl rfl rfl rfl ?_ | refine aw_seq ?_ | refine aw_region ?_ | refine aw_block ?_ | refine ao_nil ⟨fun h => (Bool.false_ne_true h).elim, ?_⟩ | refine ao_nil ⟨fun _ => ⟨by kernel_rfl, by kernel_rfl⟩, ?_⟩ | refine ao_skip rfl rfl rfl ?_ | refine aw_true rfl ?_ | refine aw_false rfl ?_ | refine aw_skip ?_ | refine aw_exit ?_)
  refine ao_e rfl rfl rfl rfl (ef_append (xs := a.map kC) (es' := a.map kC) (len' := a.length) (by_ := 40) rfl rfl rfl rfl rfl rfl rfl (Nat.zero_le _) (by omega) (List.nil_append _) (by omega)) ?_
  repeat (first | refine aw_loop ?_ | refine ao_e rfl rfl rfl rfl rfl ?_ | refine ao_eff (v := V.val (Value.bool true)) (ups := []) rfl rfl rfl rfl ?_ | refine ao_eff (v := V.val (Value.bool false)) (ups := []) rfl rfl rfl rfl ?_ | refine aw_seq ?_ | refine aw_region ?_ | refine aw_block ?_ | refine ao_nil ⟨fun h => (Bool.false_ne_true h).elim, ?_⟩ | refine ao_nil ⟨fun _ => ⟨by kernel_rfl, by kernel_rfl⟩, ?_⟩ | refine ao_skip rfl rfl rfl ?_ | refine aw_true rfl ?_ | refine aw_false rfl ?_ | refine aw_skip ?_ | refine aw_exit ?_)
  refine ao_e rfl rfl rfl rfl (ef_append (xs := b.map kC) (es' := (a ++ b).map kC) (len' := (a ++ b).length) (by_ := 40) rfl rfl rfl rfl rfl rfl rfl (by show a.length ≤ (a.map kC).length; omega) (by omega) (by show (a.map kC).take a.length ++ _ = _; rw [List.map_append, List.take_of_length_le (by omega)]) (by omega)) ?_
  repeat (first | refine aw_loop ?_ | refine ao_e rfl rfl rfl rfl rfl ?_ | refine ao_eff (v := V.val (Value.bool true)) (ups := []) rfl rfl rfl rfl ?_ | refine ao_eff (v := V.val (Value.bool false)) (ups := []) rfl rfl rfl rfl ?_ | refine aw_seq ?_ | refine aw_region ?_ | refine aw_block ?_ | refine ao_nil ⟨fun h => (Bool.false_ne_true h).elim, ?_⟩ | refine ao_nil ⟨fun _ => ⟨by kernel_rfl, by kernel_rfl⟩, ?_⟩ | refine ao_skip rfl rfl rfl ?_ | refine aw_true rfl ?_ | refine aw_false rfl ?_ | refine aw_skip ?_ | refine aw_exit ?_)
  exact aw_ret (ret_outs (fn := Try.f56) rfl rfl rfl (by rw [List.length_map]; exact Nat.le_refl _) rfl)
theorem wireSendOut (a b : List K) (ha : a.length ≤ 1000) (hb : b.length ≤ 1000) (h1 : mayK a = true) (h2 : b.all pkB = true) (h0 : 0 < (a ++ b).length) (n : Nat) (hn : n = min (a ++ b).length 40) : AC Try.prog X 25 [.isl 4 (a.map kC), .isl 4 (b.map kC)] [] (.tup [.sl 0 0 0 n, vi 0]) [] [⟨0, 4, true, true, (a ++ b).map kC⟩] := by
  have hm := wireMay (X := X) a (by omega)
  have hc := containsKSend (X := X) b (by omega)
  rw [h1] at hm
  rw [h2] at hc
  have hla : ((a ++ b).map kC).length = (a ++ b).length := List.length_map ..
  have hab : (a ++ b).length = a.length + b.length := List.length_append
  have hK := concatKOut (X := X) a b ha hb h0
  have hmn : (if (40 : Int) < (((a ++ b).length : Nat) : Int) then (40 : Int) else (((a ++ b).length : Nat) : Int)) = (n : Int) := by split <;> omega
  refine ac_mk (by kernel_rfl) Try.func25 rfl (lb rfl) rfl rfl ?_
  repeat (first | refine ao_fun rfl rfl rfl rfl rfl rfl hm ?_ | refine ao_fun rfl rfl rfl rfl rfl rfl hc ?_ | refine ao_e rfl rfl rfl rfl rfl ?_ | refine ao_eff (v := V.val (Value.bool true)) (ups := []) rfl rfl rfl rfl ?_ | refine ao_eff (v := V.val (Value.bool false)) (ups := []) rfl rfl rfl rfl ?_ | refine aw_seq ?_ | refine aw_region ?_ | refine aw_block ?_ | refine ao_nil ⟨fun h => (Bool.false_ne_true h).elim, ?_⟩ | refine ao_nil ⟨fun _ => ⟨by kernel_rfl, by kernel_rfl⟩, ?_⟩ | refine ao_skip rfl rfl rfl ?_ | refine aw_true rfl ?_ | refine aw_false rfl ?_ | refine aw_skip ?_ | refine aw_exit ?_)
  refine ao_outs rfl rfl rfl rfl rfl rfl rfl hK rfl rfl ?_
  repeat (first | refine ao_as (vi (n : Nat)) rfl rfl rfl rfl (congrArg vi hmn) ?_ | refine ao_e rfl rfl rfl rfl rfl ?_ | refine ao_eff (v := V.val (Value.bool true)) (ups := []) rfl rfl rfl rfl ?_ | refine ao_eff (v := V.val (Value.bool false)) (ups := []) rfl rfl rfl rfl ?_ | refine aw_seq ?_ | refine aw_region ?_ | refine aw_block ?_ | refine ao_nil ⟨fun h => (Bool.false_ne_true h).elim, ?_⟩ | refine ao_nil ⟨fun _ => ⟨by kernel_rfl, by kernel_rfl⟩, ?_⟩ | refine ao_skip rfl rfl rfl ?_ | refine aw_true rfl ?_ | refine aw_false rfl ?_ | refine aw_skip ?_ | refine aw_exit ?_)
  refine ao_e rfl rfl rfl rfl (ef_cut (n := n) rfl rfl rfl rfl (by omega) (by omega)) ?_
  repeat (first | refine ao_e rfl rfl rfl rfl rfl ?_ | refine ao_eff (v := V.val (Value.bool true)) (ups := []) rfl rfl rfl rfl ?_ | refine ao_eff (v := V.val (Value.bool false)) (ups := []) rfl rfl rfl rfl ?_ | refine aw_seq ?_ | refine aw_region ?_ | refine aw_block ?_ | refine ao_nil ⟨fun h => (Bool.false_ne_true h).elim, ?_⟩ | refine ao_nil ⟨fun _ => ⟨by kernel_rfl, by kernel_rfl⟩, ?_⟩ | refine ao_skip rfl rfl rfl ?_ | refine aw_true rfl ?_ | refine aw_false rfl ?_ | refine aw_skip ?_ | refine aw_exit ?_)
  exact aw_ret (ret_outv (fn := Try.f25) rfl rfl rfl (by show n ≤ ((a ++ b).map kC).length; omega) rfl)
def numsL (N : List Int) : List Int := ([0, 1, 2, -1, 39, 40] ++ N).take 12
def iC (n : Int) : List V := [vi n]
theorem lawNumbers (p : A13) (hN : p.N.length ≤ 1000) : AF Try.prog X 22 [.agg (a13C p)] (.isl 1 ((numsL p.N).map fun n => [vi n])) := by
  have hl : (p.N.map fun n => [vi n]).length = p.N.length := List.length_map ..
  refine ac_mk (by kernel_rfl) Try.func22 rfl (lb rfl) rfl rfl ?_
  repeat (first | refine ao_e rfl rfl rfl rfl rfl ?_ | refine ao_eff (v := V.val (Value.bool true)) (ups := []) rfl rfl rfl rfl ?_ | refine ao_eff (v := V.val (Value.bool false)) (ups := []) rfl rfl rfl rfl ?_ | refine aw_seq ?_ | refine aw_region ?_ | refine aw_block ?_ | refine ao_nil ⟨fun h => (Bool.false_ne_true h).elim, ?_⟩ | refine ao_nil ⟨fun _ => ⟨by kernel_rfl, by kernel_rfl⟩, ?_⟩ | refine ao_skip rfl rfl rfl ?_ | refine aw_true rfl ?_ | refine aw_false rfl ?_ | refine aw_skip ?_ | refine aw_exit ?_)
  refine ao_e rfl rfl rfl rfl (ef_append (xs := p.N.map fun n => [vi n]) (es' := ([0, 1, 2, -1, 39, 40] ++ p.N).map fun n => [vi n]) (len' := 6 + p.N.length) (by_ := 8) rfl rfl rfl rfl rfl rfl rfl (lb rfl) (by omega) rfl (by omega)) ?_
  repeat (first | refine ao_e rfl rfl rfl rfl rfl ?_ | refine ao_eff (v := V.val (Value.bool true)) (ups := []) rfl rfl rfl rfl ?_ | refine ao_eff (v := V.val (Value.bool false)) (ups := []) rfl rfl rfl rfl ?_ | refine aw_seq ?_ | refine aw_region ?_ | refine aw_block ?_ | refine ao_nil ⟨fun h => (Bool.false_ne_true h).elim, ?_⟩ | refine ao_nil ⟨fun _ => ⟨by kernel_rfl, by kernel_rfl⟩, ?_⟩ | refine ao_skip rfl rfl rfl ?_ | refine aw_true rfl ?_ | refine aw_false rfl ?_ | refine aw_skip ?_ | refine aw_exit ?_)
  refine ao_dec rfl rfl rfl rfl (fun hb => ?_) (fun hb => ?_)
  · repeat (first | refine ao_e rfl rfl rfl rfl rfl ?_ | refine ao_eff (v := V.val (Value.bool true)) (ups := []) rfl rfl rfl rfl ?_ | refine ao_eff (v := V.val (Value.bool false)) (ups := []) rfl rfl rfl rfl ?_ | refine aw_seq ?_ | refine aw_region ?_ | refine aw_block ?_ | refine ao_nil ⟨fun h => (Bool.false_ne_true h).elim, ?_⟩ | refine ao_nil ⟨fun _ => ⟨by kernel_rfl, by kernel_rfl⟩, ?_⟩ | refine ao_skip rfl rfl rfl ?_ | refine aw_true rfl ?_ | refine aw_false rfl ?_ | refine aw_skip ?_ | refine aw_exit ?_)
    refine ao_e rfl rfl rfl rfl (ef_cut (n := 12) rfl rfl rfl rfl (by decide) (by omega)) ?_
    repeat (first | refine ao_e rfl rfl rfl rfl rfl ?_ | refine ao_eff (v := V.val (Value.bool true)) (ups := []) rfl rfl rfl rfl ?_ | refine ao_eff (v := V.val (Value.bool false)) (ups := []) rfl rfl rfl rfl ?_ | refine aw_seq ?_ | refine aw_region ?_ | refine aw_block ?_ | refine ao_nil ⟨fun h => (Bool.false_ne_true h).elim, ?_⟩ | refine ao_nil ⟨fun _ => ⟨by kernel_rfl, by kernel_rfl⟩, ?_⟩ | refine ao_skip rfl rfl rfl ?_ | refine aw_true rfl ?_ | refine aw_false rfl ?_ | refine aw_skip ?_ | refine aw_exit ?_)
    refine aw_canon [.any, .any, .isl 1 ((numsL p.N).map fun n => [vi n])] [] ⟨.any _, .any _, ren_frzT (fun n => [vi n]) ([0, 1, 2, -1, 39, 40] ++ p.N) (numsL p.N) rfl rfl rfl (by rw [List.length_append]; show 12 ≤ 6 + p.N.length; omega) rfl rfl rfl, trivial⟩ trivial (fun h0 => ?_)
    exact aw_ret ⟨.inr rfl, _, _, _, _, _, rfl, rfl, rfl, rfl, rfl, rfl⟩
  · repeat (first | refine ao_e rfl rfl rfl rfl rfl ?_ | refine ao_eff (v := V.val (Value.bool true)) (ups := []) rfl rfl rfl rfl ?_ | refine ao_eff (v := V.val (Value.bool false)) (ups := []) rfl rfl rfl rfl ?_ | refine aw_seq ?_ | refine aw_region ?_ | refine aw_block ?_ | refine ao_nil ⟨fun h => (Bool.false_ne_true h).elim, ?_⟩ | refine ao_nil ⟨fun _ => ⟨by kernel_rfl, by kernel_rfl⟩, ?_⟩ | refine ao_skip rfl rfl rfl ?_ | refine aw_true rfl ?_ | refine aw_false rfl ?_ | refine aw_skip ?_ | refine aw_exit ?_)
    refine aw_canon [.any, .any, .isl 1 ((numsL p.N).map fun n => [vi n])] [] ⟨.any _, .any _, ren_frzT (fun n => [vi n]) ([0, 1, 2, -1, 39, 40] ++ p.N) (numsL p.N) rfl rfl rfl (by rw [List.length_append]; exact Nat.le_refl _) (by unfold numsL; rw [List.take_of_length_le (by rw [List.length_append]; exact Nat.le_refl _), List.take_of_length_le (by rw [List.length_append]; show 6 + p.N.length ≤ 12; omega)]) rfl rfl, trivial⟩ trivial (fun h0 => ?_)
    exact aw_ret ⟨.inr rfl, _, _, _, _, _, rfl, rfl, rfl, rfl, rfl, rfl⟩
end Go.Ai
