/- A part of the proof: what the program does, step by step, over values without addresses. No conditions of mine. -/
import Derived.Test.YtadfohbogoocgaaGreatDoorRunN9toAiG
import Derived.Test.YtadfohbogoocgaaGreatDoorCoreAiZ7toAiF
import Derived.Test.YtadfohbogoocgaaGreatDoorAiEq
import Derived.Test.YtadfohbogoocgaaGreatDoorAiSp
set_option linter.unusedVariables false
set_option linter.unusedSimpArgs false
namespace Go.Ai
open Go Go.RowKit
def renR (h : Nat → Option Blk) (H : List (Nat × Blk)) : List (List V) → List (List V) → Prop
  | [], [] => True
  | e :: es, e' :: es' => renC h H e e' ∧ renR h H es es'
  | _, _ => False
theorem renR_len {h : Nat → Option Blk} {H : List (Nat × Blk)} : ∀ {cs cs' : List (List V)}, renR h H cs cs' → cs'.length = cs.length
  | [], [], _ => rfl
  | c :: cs, c' :: cs', hh => by simp only [List.length_cons, renR_len hh.2]
  | [], _ :: _, hh => hh.elim
  | _ :: _, [], hh => hh.elim
theorem renR_get {h : Nat → Option Blk} {H : List (Nat × Blk)} : ∀ {cs cs' : List (List V)} {j : Nat} {c c' : List V}, renR h H cs cs' → cs[j]? = some c → cs'[j]? = some c' → renC h H c c'
  | [], [], _, _, _, _, h1, _ => by simp at h1
  | c :: cs, c' :: cs', 0, _, _, hh, h1, h2 => by simp at h1 h2; subst h1 h2; exact hh.1
  | c :: cs, c' :: cs', j + 1, _, _, hh, h1, h2 => renR_get hh.2 (by simpa using h1) (by simpa using h2)
  | [], _ :: _, _, _, _, hh, _, _ => hh.elim
  | _ :: _, [], _, _, _, hh, _, _ => hh.elim
/-- Rows whose cells name lists of the call's own. -/
theorem renB_rows {h : Nat → Option Blk} {H : List (Nat × Blk)} {b : Nat} {k k' : Blk} {es es' : List (List V)} (hk : h b = some k) (hs : k'.sz = k.sz) (hw : k'.wr = k.wr) (hv : (b % 2 == 0 || k'.ver == k.ver) = true) (hc : (!k'.cl || k'.es.all fun e => e.all clo0) = true) (he : k.es = es) (he' : k'.es = es') (hl : renR h H es es') : RenB h H b k' :=
  ⟨k, hk, hs, hw, fun hb => by
    simp only [Bool.or_eq_true, beq_iff_eq] at hv
    rcases hv with h | h
    · omega
    · exact h, .inr ⟨fun hcl e hm c hc' => by
      rw [hcl] at hc
      have := List.all_eq_true.1 (by simpa using hc : (k'.es.all fun e => e.all clo0) = true) e hm
      exact List.all_eq_true.1 this c hc', by rw [he, he', renR_len hl], fun i e e' h1 h2 => by
      rw [he] at h1; rw [he'] at h2
      have := renR_get hl h1 h2
      exact ⟨renC_len this, fun j c c' h3 h4 => renC_get this h3 h4⟩⟩⟩
end Go.Ai

namespace Go.Ai
open Go Go.RowKit
variable {P : Program} {X : FuncId → List V → List (Nat × List V) → V → List (Nat × List V) → List Blk → Prop}
/-- Handed on to what is known of the code from here on. -/
theorem aw_hand {nt : Nat} {c : Code} {σ : St} {Q : Ex → St → Prop} (l : List V) (H : List (Nat × Blk)) (h : ∀ h0, AW P X nt c ⟨L l, HH (odds h0) H⟩ Q) (hl : renL σ.h H l σ.s 0) (hH : renH σ.h H H) : AW P X nt c σ Q := aw_canon l H hl hH h
/-- A block of the call's own handed over: the results' row. -/
theorem close_out {h : Nat → Option Blk} {b ver len : Nat} {k : Blk} (hk : live h b ver = some k) (hc : (k.wr && k.cl && b % 2 == 0) = true) (hl : len ≤ k.es.length) : closeR h [.sl b ver 0 len] [] = some ([.sl 0 0 0 len], [b], []) := by
  simp only [Bool.and_eq_true, beq_iff_eq] at hc
  have e : outOf h [] (.sl b ver 0 len) = some (b, len) := by
    simp only [outOf, hk]
    rw [if_pos ⟨hc.1.1, hc.1.2, hl, hc.2, by simp⟩]
  simp only [closeR, e]
  rfl
/-- A call's end that hands over a block. -/
theorem ret_out {fn : Func} {σ : St} {b ver len : Nat} {k : Blk} (h1 : resL P fn σ fn.results.toList = some [.sl b ver 0 len]) (hk : live σ.h b ver = some k) (hc : (k.wr && k.cl && b % 2 == 0) = true) (hl : len ≤ k.es.length) :
    retQ P fn 0 (.sl 0 0 0 len) [] [outBlk k] .ret σ := by
  refine ⟨.inr rfl, _, _, _, _, _, h1, close_out hk hc hl, rfl, rfl, rfl, ?_⟩
  simp [outsOf, (live_some hk).1]
end Go.Ai

namespace Go.Ai
open Go Go.RowKit
set_option linter.unusedSimpArgs false
variable {P : Program} {h : Nat → Option Blk} {site : Nat}
theorem byteCells_str {l : List Int} (hl : Bytes l) : byteCells (strOfNums l) = l.map u8 := by
  have h := bytesOf_str hl
  unfold byteCells u8
  conv => rhs; rw [← h]
  unfold bytesOf
  rw [List.map_map]; rfl
/-- []byte(s) -/
theorem ef_bytes {S T Et : TypeId} {x : Operand} (l : List Int) (hl : Bytes l) (hS : P.underlying S = some .string) (hT : P.underlying T = some (.slice Et)) (hE : P.underlying Et = some (.int .u8)) (hs : sizeT P Et = some 1) :
    eff P site (.convert S T x) [.val (.string (strOfNums l))] h = some (.sl (newId site 0) (nextVer h (newId site 0)) 0 l.length, [mk h (newId site 0) 1 true (l.map u8)]) := by
  have e : effConv P site S T (.val (.string (strOfNums l))) h = some (.sl (newId site 0) (nextVer h (newId site 0)) 0 l.length, [mk h (newId site 0) 1 true (l.map u8)]) := by
    simp only [effConv, hS, hT, hE, hs, strOfNums_size, byteCells_str hl]
  rw [← e]; rfl
/-- &l[i] of a block of the call's own, from its begin. -/
theorem ef_ixn {T Et : TypeId} {x ix : Operand} {b ver len : Nat} {k : Blk} {kk : IntKind} {n : Int} (i : Nat) (hk : live h b ver = some k) (hE : elemT P T = some Et) (hs : sizeT P Et = some k.sz) (hn : n = (i : Int)) (hi : i < len) (hl : len ≤ k.es.length) :
    eff P site (.indexAddr T x ix) [.sl b ver 0 len, .val (.int kk n)] h = some (.ptr b ver i 0, []) := by
  subst hn
  have := ef_ixs (P := P) (site := site) (T := T) (x := x) (ix := ix) (kk := kk) (n := (i : Int)) (off := 0) hk hE hs (by omega) (by simpa using hi) (by simpa using hl)
  rw [this]
  simp
/-- a load of a row's element -/
theorem ef_ldn {T : TypeId} {x : Operand} {b ver i : Nat} {k : Blk} {e : List V} {v : V} (hk : live h b ver = some k) (he : k.es[i]? = some e) (hp : partV P T e = some v) : eff P site (.load T x) [.ptr b ver i 0] h = some (v, []) := by
  have : effLoad P T (.ptr b ver i 0) h = some v := by
    simp only [effLoad, hk, he, List.drop_zero, hp]
  show same (effLoad P T (.ptr b ver i 0) h) = _
  rw [this]; rfl
/-- a store of a row's element of one cell -/
theorem ef_stn {T : TypeId} {x y : Operand} {b ver i : Nat} {k : Blk} {e : List V} {v : V} (hk : live h b ver = some k) (he : k.es[i]? = some e) (hs : sizeT P T = some 1) (hc : (k.wr && decide ((vcells v).length = 1) && decide (1 ≤ e.length) && (vcells v).all cellOk) = true) :
    eff P site (.store T x y) [.ptr b ver i 0, v] h = some (.any, [(b, { k with es := k.es.set i (splice e 0 (vcells v)), cl := k.cl && (vcells v).all clo0 })]) := by
  simp only [Bool.and_eq_true, decide_eq_true_eq] at hc
  obtain ⟨⟨⟨c1, c2⟩, c3⟩, c4⟩ := hc
  show effStore P T (.ptr b ver i 0) v h = _
  simp only [effStore, hk, hs, he]
  rw [if_pos ⟨c1, c2, by simpa using c3, c4⟩]
/-- of bytes -/
theorem ef_ld8 {T : TypeId} {x : Operand} {b ver i : Nat} {k : Blk} {l : List Int} {z : Int} (hk : live h b ver = some k) (hes : k.es = l.map u8) (hz : l[i]? = some z) (hu : P.underlying T = some (.int .u8)) (hs : sizeT P T = some 1) : eff P site (.load T x) [.ptr b ver i 0] h = some (.val (.int .u8 z), []) := by
  refine ef_ldn hk (e := u8 z) (by rw [hes, List.getElem?_map, hz]; rfl) ?_
  simp only [partV, hu, hs, isAggD, u8]
  rfl
theorem ef_st8 {T : TypeId} {x y : Operand} {b ver i sz : Nat} {w c : Bool} {l : List Int} {z z' : Int} (hk : live h b ver = some ⟨ver, sz, w, c, l.map u8⟩) (hz : l[i]? = some z) (hs : sizeT P T = some 1) (hw : w = true) :
    eff P site (.store T x y) [.ptr b ver i 0, .val (.int .u8 z')] h = some (.any, [(b, ⟨ver, sz, w, c && true, (l.set i z').map u8⟩)]) := by
  have := ef_stn (P := P) (site := site) (T := T) (x := x) (y := y) (e := u8 z) (v := .val (.int .u8 z')) hk (by show (l.map u8)[i]? = _; rw [List.getElem?_map, hz]; rfl) hs (by subst hw; rfl)
  rw [this]
  congr 3
  rw [List.map_set]; rfl
end Go.Ai

namespace Go.Ai
open Go Go.RowKit
variable {P : Program} {X : FuncId → List V → List (Nat × List V) → V → List (Nat × List V) → List Blk → Prop}
/-- A call's end that hands over a block. -/
theorem ret_outs {fn : Func} {σ : St} {b ver len : Nat} {k : Blk} (h1 : resL P fn σ fn.results.toList = some [.sl b ver 0 len]) (hk : live σ.h b ver = some k) (hc : (k.wr && k.cl && b % 2 == 0) = true) (hl : len ≤ k.es.length) {outs : List Blk} (ho : [outBlk k] = outs) :
    retQ P fn 0 (.sl 0 0 0 len) [] outs .ret σ := by
  subst ho
  exact ret_out h1 hk hc hl
end Go.Ai

namespace Go.Ai
open Go Go.RowKit
set_option linter.unusedSimpArgs false
variable {P : Program}
/-- a = b of two rows of two whole numbers, a text, yes or no. -/
theorem ef_eq4 {h : Nat → Option Blk} {site : Nat} {T yT : TypeId} {x y : Operand} {a b a' b' : Int} {c c' : ByteArray} {d d' : Bool} {f0 f1 f2 f3 : Field} (hu : P.underlying T = some (.struct #[f0, f1, f2, f3])) (hp : P.stoodInHeld T = false) (hm : P.eqGuardType P.depth T = false)
    (hn : (f0.name == "_" || f1.name == "_" || f2.name == "_" || f3.name == "_") = false)
    (p0 : ∀ (u v : Int) (s : ByteArray) (z : Bool), pr P (part f0.type #[.int .i64 u, .int .i64 v, .string s, .bool z] f0.offset) = some (.int .i64 u)) (p1 : ∀ (u v : Int) (s : ByteArray) (z : Bool), pr P (part f1.type #[.int .i64 u, .int .i64 v, .string s, .bool z] f1.offset) = some (.int .i64 v))
    (p2 : ∀ (u v : Int) (s : ByteArray) (z : Bool), pr P (part f2.type #[.int .i64 u, .int .i64 v, .string s, .bool z] f2.offset) = some (.string s)) (p3 : ∀ (u v : Int) (s : ByteArray) (z : Bool), pr P (part f3.type #[.int .i64 u, .int .i64 v, .string s, .bool z] f3.offset) = some (.bool z))
    (e0 : P.underlying f0.type = some (.int .i64)) (e1 : P.underlying f1.type = some (.int .i64)) (e2 : P.underlying f2.type = some .string) (e3 : P.underlying f3.type = some .bool) :
    eff P site (.binOp .neq T x y yT) [.agg [vi a, vi b, vs c, vo d], .agg [vi a', vi b', vs c', vo d']] h = some (.val (.bool (!decide (a = a' ∧ b = b' ∧ c = c' ∧ d = d'))), []) := by
  have hI : ∀ (n : Nat) (t : TypeId) (u v : Int), P.underlying t = some (.int .i64) → pr P (Op.equalIn (n + 1) t (.int .i64 u) (.int .i64 v)) = some (decide (u = v)) := by
    intro n t u v ht
    simp [Op.equalIn, pr_bind', pr_underlying ht, pr_pure]
    rw [Bool.eq_iff_iff]; simp
  have hS : ∀ (n : Nat) (t : TypeId) (u v : ByteArray), P.underlying t = some .string → pr P (Op.equalIn (n + 1) t (.string u) (.string v)) = some (decide (u = v)) := by
    intro n t u v ht
    simp only [Op.equalIn, pr_bind', pr_underlying ht, Option.bind_some]
    refine congrArg some ?_
    have hd : (u == v) = (u.data == v.data) := rfl
    rw [hd, Bool.eq_iff_iff]
    simp only [beq_iff_eq, decide_eq_true_eq]
    exact ⟨fun h => by cases u; cases v; exact congrArg ByteArray.mk h, fun h => by rw [h]⟩
  have hB : ∀ (n : Nat) (t : TypeId) (u v : Bool), P.underlying t = some .bool → pr P (Op.equalIn (n + 1) t (.bool u) (.bool v)) = some (decide (u = v)) := by
    intro n t u v ht
    simp [Op.equalIn, pr_bind', pr_underlying ht, pr_pure]
    rw [Bool.eq_iff_iff]; simp
  simp only [Bool.or_eq_false_iff] at hn
  have hf : P.fieldsOf T = #[f0, f1, f2, f3] := by simp [Program.fieldsOf, hu]
  have key : pr P (Op.equal T (.agg #[.int .i64 a, .int .i64 b, .string c, .bool d]) (.agg #[.int .i64 a', .int .i64 b', .string c', .bool d'])) = some (decide (a = a' ∧ b = b' ∧ c = c' ∧ d = d')) := by
    unfold Op.equal Op.maxDepth
    rw [pr_equal_struct (P := P) 9999 T _ _ (by rw [hf]; exact hu) hp, hf]
    rw [pr_field (P := P) hn.1.1.1 (p0 _ _ _ _) (p0 _ _ _ _) (hI 9998 _ _ _ e0) (pr_field hn.1.1.2 (p1 _ _ _ _) (p1 _ _ _ _) (hI 9998 _ _ _ e1) (pr_field hn.1.2 (p2 _ _ _ _) (p2 _ _ _ _) (hS 9998 _ _ _ e2) (pr_field hn.2 (p3 _ _ _ _) (p3 _ _ _ _) (hB 9998 _ _ _ e3) (s := true) rfl)))]
    congr 1
    rw [Bool.eq_iff_iff]
    simp
  have tv : ∀ (u v : Int) (s : ByteArray) (z : Bool), toVal (.agg [vi u, vi v, vs s, vo z]) = some (.agg #[.int .i64 u, .int .i64 v, .string s, .bool z]) := fun _ _ _ _ => rfl
  have k2 : pr P (binOp .neq T (.agg #[.int .i64 a, .int .i64 b, .string c, .bool d]) (.agg #[.int .i64 a', .int .i64 b', .string c', .bool d'])) = some (.bool (!decide (a = a' ∧ b = b' ∧ c = c' ∧ d = d'))) := by
    show pr P ((Op.equal T _ _).bind fun z => Sem.pure (Value.bool (!z))) = _
    rw [pr_bind, key]; rfl
  simp only [eff, effBin, tv, pr_bind', pr_noguard hm, Option.bind_some, k2]; rfl

variable {h : Nat → Option Blk} {site : Nat}
/-- A call that reads blocks of the caller's own, and hands back a list: they are written no more. -/
theorem ao_snap {X : FuncId → List V → List (Nat × List V) → V → List (Nat × List V) → List Blk → Prop} {nt rid : Nat} {ops : Array Oper} {i : Nat} {l : List Nat} {σ : St} {Q : List Rec → St → Prop} {o : Oper} {fo : Operand} {args : Array Operand} {ats : Array TypeId} {f : FuncId} {aa : List V} {sn : List Nat} {res : V} {ups : List (Nat × Blk)}
    (ho : ops[i]? = some o) (hg : guardV ops σ.s o = some true) (hd : dstOk nt o = true) (hop : o.op = .call ⟨.value fo, args, ats⟩) (hf : calleeOf (evalO σ.s fo) = some f)
    (hp : prep σ.h (args.toList.map (evalO σ.s)) 0 = some ⟨aa, [], sn⟩) (hk : prepOk (siteOf rid i) ⟨aa, [], sn⟩ = true) (hc : AF P X f aa res) (hu : callUps (siteOf rid i) σ.h ⟨aa, [], sn⟩ res [] [] = ups)
    (h : AO P X nt rid ops l (σ.to' o.dst res ups) (fun recs σ' => Q (recDo i o (siteOf rid i) (valsOf o σ.s) σ.h res ups :: recs) σ')) : AO P X nt rid ops (i :: l) σ Q := by
  obtain ⟨h1, h2, h3, h4⟩ := hc
  have e1 : rn (siteOf rid i) σ.h res = res := rn_clo (by simp only [outsOk, Bool.and_eq_true] at h3; exact h3.2)
  refine ao_call ho hg hd hop hf h1 hp hk h4 rfl h3 ?_
  rw [e1, hu]; exact h
/-- so many zeros are put behind nothing -/
theorem ef_zeros {s x : Operand} {S X Et : TypeId} {sz by_ : Nat} {z : List V} (n : Nat) (hE : elemT P S = some Et) (hs : sizeT P Et = some sz) (hb : bytesT P Et = some by_) (hz : zeroCs P Et = some z) (hX : P.underlying X = some (.int .i64))
    (h0 : 0 < n) (hc : (decide (0 < sz) && decide (0 < by_) && z.length == sz) = true) (hn : n * by_ ≤ 2 ^ 47) :
    eff P site (.call ⟨.builtin .append, #[s, x], #[S, X]⟩) [.emp, vi n] h = some (.sl (newId site 0) (nextVer h (newId site 0)) 0 n, [mk h (newId site 0) sz true (List.replicate n z)]) := by
  simp only [Bool.and_eq_true, decide_eq_true_eq, beq_iff_eq] at hc
  have e : effAppend P site S X .emp (vi n) h = some (.sl (newId site 0) (nextVer h (newId site 0)) 0 n, [mk h (newId site 0) sz true (List.replicate n z)]) := by
    unfold effAppend
    simp only [hE, hs, hb, hz, srcOf, hX]
    rw [if_pos ⟨by omega, hc.1.1, hc.1.2, by simpa using hn, hc.2⟩]
    simp
  exact e
/-- the first none of a row, to be written on -/
theorem ef_none {T Et : TypeId} {x y : Operand} {b ver len : Nat} {k : Blk} {kk : IntKind} (hE : elemT P T = some Et) (hk : live h b ver = some k) (hs : sizeT P Et = some k.sz) (hl : 0 < len) :
    eff P site (.slice T x none (some y) none) [.sl b ver 0 len, .val (.int kk 0)] h = some (.sl b ver 0 0, []) := by
  have e : effSlice P T (.sl b ver 0 len) (some (0, some 0, false)) h = some (.sl b ver 0 0) := by
    unfold effSlice
    simp only [hE, hk, hs]
    simp [hl]
  show same (effSlice P T (.sl b ver 0 len) (bnds none (some y) none [.val (.int kk 0)]) h) = _
  have hb : bnds none (some y) none [.val (.int kk 0)] = some (0, some 0, false) := rfl
  rw [hb, e]; rfl
end Go.Ai

namespace Go.Sp
open Go Go.RowKit Go.Ai
set_option linter.unusedVariables false
set_option linter.unusedSimpArgs false
def rkOs : Nat → Pt → List O × Pt
  | 0, q => ([], q)
  | n + 1, q => if q.2 = true then ([], q) else ((rkO q).1 :: (rkOs n (rkO q).2).1, (rkOs n (rkO q).2).2)
def fkM (m : M) (q : Pt) : Option M := if q.2 = false ∧ q.1 = [] ∧ mayM m = true then some m else none
def rkM7 (a b c d e f : Int) (n : Int × Pt) : Option M := fkM ⟨a, b, c, d, e, f, (rkOs n.1.toNat n.2).1⟩ (rkOs n.1.toNat n.2).2
def rkM (p : Pt) : Option M :=
  rkM7 (rkN p).1 (rkN (rkN p).2).1 (rkN (rkN (rkN p).2).2).1 (rkN (rkN (rkN (rkN p).2).2).2).1 (rkN (rkN (rkN (rkN (rkN p).2).2).2).2).1 (rkN (rkN (rkN (rkN (rkN (rkN p).2).2).2).2).2).1 (rkN (rkN (rkN (rkN (rkN (rkN (rkN p).2).2).2).2).2).2)
theorem rdT_bad {p : Pt} (h : p.2 = true) : (rdT p).2.2 = true := by
  unfold rdT
  cases pk p.1 with
  | none => rfl
  | some y =>
    simp only
    split
    · rfl
    · exact h
theorem rdE_bad {p : Pt} (h : p.2 = true) : (rdE p).2.2 = true := rdN_bad (rdN_bad (rdN_bad h))
theorem rdO_bad {p : Pt} (h : p.2 = true) : (rdO p).2.2 = true := by
  have h3 := rdE_bad h
  unfold rdO rdO3
  have h4 : (rdN (rdN (rdN p).2).2).2.2 = true := h3
  generalize rdN (rdN (rdN p).2).2 = q at h4 ⊢
  split
  · show ((rdN (rdN (rdN q.2).2).2).2.2 || _) = true
    rw [rdN_bad (rdN_bad (rdN_bad h4))]; rfl
  · show (((rdG (min (rdN (rdT (rdE q.2).2).2).1.toNat 200) (rdN (rdT (rdE q.2).2).2).2).2.2 || _) || _) = true
    rw [rdG_bad _ _ (rdN_bad (rdT_bad (rdE_bad h4)))]; rfl
theorem rdOs_bad : ∀ (n : Nat) (p : Pt), p.2 = true → (rdOs n p).2.2 = true
  | 0, p, h => h
  | n + 1, p, h => rdOs_bad n _ (rdO_bad h)
theorem rkO_few {B : Nat} {q : Pt} (h : Few B q) : Few B (rkO q).2 ∧ (rkO q).1.f4.size ≤ B ∧ (rkO q).1.f5.length ≤ 268435456 := by
  have f3 := (rkN_few (rkN_few (rkN_few h).1).1).1
  unfold rkO rkO3
  generalize rkN (rkN (rkN q).2).2 = r at f3 ⊢
  split
  · exact ⟨(rkN_few (rkN_few (rkN_few f3).1).1).1, Nat.zero_le _, Nat.zero_le _⟩
  · have f4 := rkE_few f3
    have f5 := rkT_few f4
    have f6 := rkN_few f5.1
    have g := rkG_few (rkN (rkT (rkE r.2).2).2).1.toNat _ f6.1
    exact ⟨g.1, f5.2, Nat.le_trans g.2.1 (by have := f6.2.2; omega)⟩
theorem rkOs_few {B : Nat} : ∀ (n : Nat) (q : Pt), Few B q → Few B (rkOs n q).2 ∧ (rkOs n q).1.length ≤ n ∧ ((rkOs n q).2.2 = true ∨ (rkOs n q).1.length = n) ∧ ∀ o ∈ (rkOs n q).1, o.f4.size ≤ B ∧ o.f5.length ≤ 268435456
  | 0, q, h => ⟨h, Nat.le_refl _, .inr rfl, nofun⟩
  | n + 1, q, h => by
    unfold rkOs
    by_cases hb : q.2 = true
    · rw [if_pos hb]
      exact ⟨h, Nat.zero_le _, .inl hb, nofun⟩
    · rw [if_neg hb]
      have f := rkO_few h
      have r := rkOs_few n _ f.1
      refine ⟨r.1, ?_, ?_, ?_⟩
      · show ((rkO q).1 :: (rkOs n (rkO q).2).1).length ≤ n + 1
        rw [List.length_cons]; have := r.2.1; omega
      · rcases r.2.2.1 with h1 | h1
        · exact .inl h1
        · right
          show ((rkO q).1 :: (rkOs n (rkO q).2).1).length = n + 1
          rw [List.length_cons, h1]
      · intro o ho
        rcases List.mem_cons.1 ho with rfl | ho
        · exact f.2
        · exact r.2.2.2 o ho
theorem rkOs_stop {q : Pt} (h : q.2 = true) : ∀ n, rkOs n q = ([], q)
  | 0 => rfl
  | n + 1 => if_pos h
theorem sim_Os {B : Nat} : ∀ (n : Nat) (q p : Pt), Few B q → Sim q p → (rkOs n q).2.2 = (rdOs n p).2.2 ∧ ((rdOs n p).2.2 = false → (rkOs n q).1 = (rdOs n p).1 ∧ (rkOs n q).2.1 = (rdOs n p).2.1)
  | 0, q, p, _, h => ⟨h.1, fun hb => ⟨rfl, h.2.1 hb⟩⟩
  | n + 1, q, p, hf, h => by
    by_cases hb : q.2 = true
    · have hb' : p.2 = true := h.1 ▸ hb
      have := rdOs_bad (n + 1) p hb'
      rw [rkOs_stop hb]
      exact ⟨hb.trans this.symm, fun hf => by rw [this] at hf; cases hf⟩
    · unfold rkOs
      rw [if_neg hb]
      have a := alike_op hf h
      have ff := rkO_few hf
      cases hd : (rdO p).2.2 with
      | true =>
        have hk : (rkO q).2.2 = true := a.1.trans hd
        have hd2 := rdOs_bad n _ hd
        rw [rkOs_stop hk]
        exact ⟨hk.trans hd2.symm, fun hf => by have hf' := hd2.symm.trans hf; cases hf'⟩
      | false =>
        obtain ⟨e1, e2⟩ := a.2 hd
        have s : Sim (rkO q).2 (rdO p).2 := ⟨a.1, fun _ => e2, fun h => by rw [hd] at h; cases h⟩
        have r := sim_Os n _ _ ff.1 s
        refine ⟨r.1, fun hf => ?_⟩
        have r2 := r.2 hf
        refine ⟨?_, r2.2⟩
        show (rkO q).1 :: (rkOs n (rkO q).2).1 = (rdO p).1 :: (rdOs n (rdO p).2).1
        rw [e1, r2.1]
theorem rkM_eq {B : Nat} {l : List Int} (hf : Few B (l, false)) : rkM (l, false) = rdM (l, false) := by
  have s0 : Sim (l, false) (l, false) := ⟨rfl, fun _ => rfl, fun h => by cases h⟩
  have s1 := sim_N s0
  have s2 := sim_N s1.2
  have s3 := sim_N s2.2
  have s4 := sim_N s3.2
  have s5 := sim_N s4.2
  have s6 := sim_N s5.2
  have s7 := sim_N s6.2
  have f6 := rkN_few (rkN_few (rkN_few (rkN_few (rkN_few (rkN_few (rkN_few hf).1).1).1).1).1).1
  unfold rkM rdM
  rw [s1.1, s2.1, s3.1, s4.1, s5.1, s6.1]
  generalize (rdN (l, false)).1 = a
  generalize (rdN (rdN (l, false)).2).1 = b
  generalize (rdN (rdN (rdN (l, false)).2).2).1 = c
  generalize (rdN (rdN (rdN (rdN (l, false)).2).2).2).1 = d
  generalize (rdN (rdN (rdN (rdN (rdN (l, false)).2).2).2).2).1 = e
  generalize (rdN (rdN (rdN (rdN (rdN (rdN (l, false)).2).2).2).2).2).1 = f
  generalize rkN (rkN (rkN (rkN (rkN (rkN (rkN (l, false)).2).2).2).2).2).2 = x at *
  generalize rdN (rdN (rdN (rdN (rdN (rdN (rdN (l, false)).2).2).2).2).2).2 = y at *
  unfold rkM7 rdM7
  rw [s7.1]
  by_cases h4 : y.1 > 4
  · have hg := rkOs_few y.1.toNat x.2 f6.1
    unfold fkM finM
    rw [if_neg, if_neg]
    · rintro ⟨_, h, _⟩; omega
    · rintro ⟨h1, _, h2⟩
      have := (mayM_in h2).l
      rcases hg.2.2.1 with hg | hg
      · rw [hg] at h1; cases h1
      · have this : (rkOs y.1.toNat x.2).1.length ≤ 4 := this
        omega
  · have em : min y.1.toNat 4 = y.1.toNat := by omega
    rw [em]
    have hs := sim_Os y.1.toNat x.2 y.2 f6.1 s7.2
    unfold fkM finM
    cases hb : (rdOs y.1.toNat y.2).2.2 with
    | true =>
      rw [if_neg (by rw [hs.1, hb]; simp), if_neg (by simp)]
    | false =>
      obtain ⟨h1, h2⟩ := hs.2 hb
      rw [hs.1, hb, h1, h2]
      by_cases hc : (rdOs y.1.toNat y.2).2.1 = [] ∧ mayM ⟨a, b, c, d, e, f, (rdOs y.1.toNat y.2).1⟩ = true
      · rw [if_pos ⟨rfl, hc.1, hc.2⟩, if_pos ⟨rfl, by omega, hc.1, hc.2⟩]
      · rw [if_neg (fun h => hc h.2), if_neg (fun h => hc h.2.2)]
end Go.Sp

namespace Go.Sp
open Go Go.RowKit Go.Ai
set_option linter.unusedVariables false
set_option linter.unusedSimpArgs false
theorem wrap_u64 (n : Int) : IntKind.u64.wrap n = n % 18446744073709551616 := by simp [IntKind.wrap, IntKind.bits, IntKind.signed]
def chkStep (h b : Int) : Int := (h * 263 + b + 7) % 4294967291
/-- The check of bytes. -/
def chk (l : List Int) : Int := l.foldl chkStep 1 % 4294967296
def spelt (c : Int) : List Int := [c / 16777216 % 256, c / 65536 % 256, c / 256 % 256, c % 256]
theorem spelt_bytes (c : Int) : Bytes (spelt c) := by
  intro b hb
  simp only [spelt, List.mem_cons, List.not_mem_nil, or_false] at hb
  rcases hb with rfl | rfl | rfl | rfl <;> (constructor <;> omega)
theorem spelt_len (c : Int) : (spelt c).length = 4 := rfl
/-- A text's frame. -/
def fr (l : List Int) : List Int := vb l.length ++ (spelt (chk (vb l.length ++ l)) ++ l)
theorem fr_bytes {l : List Int} (h : Bytes l) : Bytes (fr l) := (vb_bytes _).append ((spelt_bytes _).append h)
theorem fr_len (l : List Int) : (fr l).length = (vb l.length).length + (4 + l.length) := by simp only [fr, List.length_append, spelt_len]
/-- The text that bytes begin with, and what is behind. -/
def utk (l : List Int) : Option (List Int × List Int) := match pk l with
  | none => none
  | some (n, r) => if n > 700 ∨ (r.length : Int) < 4 + n then none else if r.take 4 = spelt (chk (vb n.toNat ++ (r.drop 4).take n.toNat)) then some ((r.drop 4).take n.toNat, r.drop (4 + n.toNat)) else none

theorem utk_fr (l r : List Int) (h : l.length ≤ 700) : utk (fr l ++ r) = some (l, r) := by
  unfold utk fr
  rw [List.append_assoc, pk_vb l.length (by omega)]
  simp only [List.append_assoc, List.length_append, spelt_len, Int.toNat_natCast]
  rw [if_neg (by omega)]
  have e4 : (spelt (chk (vb l.length ++ l))).length = 4 := rfl
  have h1 : (spelt (chk (vb l.length ++ l)) ++ (l ++ r)).take 4 = spelt (chk (vb l.length ++ l)) := List.take_left' e4
  have h2 : (spelt (chk (vb l.length ++ l)) ++ (l ++ r)).drop 4 = l ++ r := List.drop_left' e4
  have h3 : (spelt (chk (vb l.length ++ l)) ++ (l ++ r)).drop (4 + l.length) = r := by rw [← List.drop_drop, h2, List.drop_left]
  rw [h1, h2, h3, List.take_left, if_pos rfl]

theorem step_eq {x b : Int} (hx : 0 ≤ x) (hx1 : x < 4294967291) (hb : isByte b) : Int.tmod (IntKind.u64.wrap ((IntKind.u64.wrap ((IntKind.u64.wrap (x * 263)) + (IntKind.u64.wrap b))) + 7)) 4294967291 = chkStep x b := by
  have ⟨h0, h1⟩ := hb
  simp only [wrap_u64]
  rw [Int.emod_eq_of_lt (a := x * 263) (by omega) (by omega), Int.emod_eq_of_lt (a := b) (by omega) (by omega), Int.emod_eq_of_lt (a := x * 263 + b) (by omega) (by omega), Int.emod_eq_of_lt (by omega) (by omega), Int.tmod_eq_emod_of_nonneg (by omega)]
  rfl
theorem chkStep_range (x b : Int) : 0 ≤ chkStep x b ∧ chkStep x b < 4294967291 := by unfold chkStep; omega

/-- What Add tells. -/
def addR (s : ByteArray) : ByteArray := if s.size > 700 then ⟨#[]⟩ else strOfNums (fr (bytesOf s))
theorem addR_ok {s : ByteArray} (h : s.size ≤ 700) : addR s = strOfNums (fr (bytesOf s)) := if_neg (by omega)
theorem str_size (l : List Int) : (strOfNums l).size = l.length := strOfNums_size l
theorem add_eq (s : ByteArray) : (strOfNums (vb s.size) ++ strOfNums (spelt (chk (bytesOf (strOfNums (vb s.size) ++ s))))) ++ s = strOfNums (fr (bytesOf s)) := by
  unfold fr
  rw [bytesOf_length, str_append, str_append, str_bytesOf, bytesOf_append, bytesOf_str (vb_bytes _), ByteArray.append_assoc]
/-- What Take tells. -/
def utakeR (l : List Int) : ByteArray × ByteArray × Bool := match utk l with
  | some (t, r) => (strOfNums t, strOfNums r, true)
  | none => (⟨#[]⟩, ⟨#[]⟩, false)
theorem str_inj {a b : List Int} (ha : Bytes a) (hb : Bytes b) : strOfNums a = strOfNums b ↔ a = b := by
  constructor
  · intro h
    have := congrArg bytesOf h
    rwa [bytesOf_str ha, bytesOf_str hb] at this
  · rintro rfl; rfl
theorem utakeR_fr (l : List Int) (h : l.length ≤ 700) (t : ByteArray) (hl : Bytes l) : utakeR (bytesOf (strOfNums (fr l) ++ t)) = (strOfNums l, t, true) := by
  unfold utakeR
  rw [bytesOf_append, bytesOf_str (fr_bytes hl), utk_fr l _ h]
  simp only [str_bytesOf]

theorem utk_sound {l t r : List Int} (hl : Bytes l) (h : utk l = some (t, r)) : l = fr t ++ r ∧ t.length ≤ 700 ∧ Bytes t ∧ Bytes r := by
  unfold utk at h
  cases hp : pk l with
  | none => rw [hp] at h; cases h
  | some y =>
    obtain ⟨n, q⟩ := y
    rw [hp] at h
    simp only at h
    obtain ⟨h0, h1, h2, h3⟩ := pk_sound hl hp
    split at h
    · cases h
    · rename_i hc
      split at h
      · rename_i hs
        simp only [Option.some.injEq, Prod.mk.injEq] at h
        obtain ⟨rfl, rfl⟩ := h
        have hlen : ((q.drop 4).take n.toNat).length = n.toNat := by rw [List.length_take, List.length_drop]; omega
        refine ⟨?_, by rw [hlen]; omega, fun c hc => h3 c (List.mem_of_mem_drop (List.mem_of_mem_take hc)), fun c hc => h3 c (List.mem_of_mem_drop hc)⟩
        unfold fr
        rw [hlen, ← hs, List.append_assoc, List.append_assoc]
        conv => lhs; rw [h2]
        congr 1
        rw [← List.drop_drop, List.take_append_drop, List.take_append_drop]
      · cases h
end Go.Sp

namespace Go.Sp
open Go Go.RowKit
/-- A packet. -/
structure K where
  f0 : Int
  f1 : Int
  f2 : ByteArray
  f3 : Bool
  deriving DecidableEq
def endsB (a b : Int) : Bool := decide (0 ≤ a ∧ a ≤ 8) && decide (0 ≤ b ∧ b ≤ 8) && (decide (a = 0) != decide (b = 0))
def pkB (k : K) : Bool := endsB k.f0 k.f1 && decide (k.f2.size ≤ 709)
def mayK (l : List K) : Bool := decide (l.length ≤ 40) && l.all pkB
def ixK (l : List K) : Int := if l.all pkB then -1 else ((l.takeWhile pkB).length : Int)
def k0 : K := ⟨0, 0, ⟨#[]⟩, false⟩
theorem K.eq_iff (x y : K) : (x.f0 = y.f0 ∧ x.f1 = y.f1 ∧ x.f2 = y.f2 ∧ x.f3 = y.f3) ↔ x = y := by
  cases x; cases y; simp
end Go.Sp
