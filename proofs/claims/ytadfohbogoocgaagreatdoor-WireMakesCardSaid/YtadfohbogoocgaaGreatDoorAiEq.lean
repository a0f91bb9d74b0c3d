/- A part of the proof: what the program does, step by step, over values without addresses. No conditions of mine. -/
import Derived.Test.YtadfohbogoocgaaGreatDoorCoreAiZ7toAiF
import Derived.Laws.StructEq
set_option linter.unusedVariables false
set_option linter.unusedSimpArgs false
namespace Go.Ai
open Go Go.RowKit
set_option linter.unusedSimpArgs false
variable {P : Program}
theorem pr_bind {α β : Type} (x : Sem α) (f : α → Sem β) : pr P (x.bind f) = (pr P x).bind fun a => pr P (f a) := by
  induction x with
  | pure a => rfl
  | program k ih => exact ih P
  | mark m k ih => exact ih
  | choose q k ih =>
    simp only [Sem.bind, pr]
    split
    · exact ih 0
    · rfl
  | _ => rfl
theorem pr_bind' {α β : Type} (x : Sem α) (f : α → Sem β) : pr P (x >>= f) = (pr P x).bind fun a => pr P (f a) := pr_bind x f
theorem pr_pure {α : Type} (a : α) : pr P (pure a : Sem α) = some a := rfl
theorem pr_program : pr P program = some P := rfl
theorem pr_underlying {t : TypeId} {d : TypeDesc} (h : P.underlying t = some d) : pr P (underlying t) = some d := by
  unfold underlying
  rw [pr_bind', pr_program, Option.bind_some, h]
  rfl
theorem pr_equal_struct (d : Nat) (t : TypeId) (xs ys : Array Value) (ht : P.underlying t = some (.struct (P.fieldsOf t))) (hp : P.stoodInHeld t = false) :
    pr P (Op.equalIn (d + 1) t (.agg xs) (.agg ys)) = pr P (Op.eqFields d xs ys (P.fieldsOf t).toList) := by
  simp only [Op.equalIn, pr_bind', pr_underlying ht, Option.bind_some, pr_program, hp, Bool.false_eq_true, if_false]
  rw [← Array.forIn_toList]
  generalize (P.fieldsOf t).toList = fs
  clear ht
  induction fs with
  | nil => simp [Op.eqFields, pr_pure]
  | cons f fs ih =>
    simp only [List.forIn_cons, Op.eqFields]
    split
    · simp only [pr_bind']
      generalize pr P (part f.type xs f.offset) = r1
      cases r1 with
      | none => rfl
      | some a =>
        simp only [Option.bind_some]
        generalize pr P (part f.type ys f.offset) = r2
        cases r2 with
        | none => rfl
        | some b =>
          simp only [Option.bind_some]
          generalize pr P (Op.equalIn d f.type a b) = r3
          cases r3 with
          | none => rfl
          | some r =>
            cases r
            · rfl
            · simp only [Option.bind_some, Bool.not_true, Bool.false_eq_true, if_false]
              have := ih
              simp only [pr_bind', pr_pure, Option.bind_some] at this ⊢
              exact this
    · simp only [pr_bind', pr_pure, Option.bind_some] at ih ⊢
      exact ih
theorem pr_field {d : Nat} {xs ys : Array Value} {f : Field} {fs : List Field} {a b : Value} {r s : Bool} (hn : (f.name == "_") = false) (ha : pr P (part f.type xs f.offset) = some a) (hb : pr P (part f.type ys f.offset) = some b)
    (he : pr P (Op.equalIn d f.type a b) = some r) (hr : pr P (Op.eqFields d xs ys fs) = some s) : pr P (Op.eqFields d xs ys (f :: fs)) = some (r && s) := by
  have hn' : f.name ≠ "_" := by simpa using hn
  simp only [Op.eqFields, if_pos hn', pr_bind', ha, hb, he, Option.bind_some]
  cases r
  · rfl
  · simpa using hr
theorem pr_noguard {o : BinOp} {t : TypeId} {x y : Operand} {xs ys : Array Value} (hm : P.eqGuardType P.depth t = false) : pr P (eqGuard o t x y (.agg xs) (.agg ys)) = some () := by
  cases o <;> simp [eqGuard, pr_bind', pr_program, hm, pr_pure]
/-- a = b of two rows of three whole numbers. -/
theorem ef_eq3 {h : Nat → Option Blk} {site : Nat} {T yT : TypeId} {x y : Operand} {a b c a' b' c' : Int} {f0 f1 f2 : Field} (hu : P.underlying T = some (.struct #[f0, f1, f2])) (hp : P.stoodInHeld T = false) (hm : P.eqGuardType P.depth T = false)
    (hn : (f0.name == "_" || f1.name == "_" || f2.name == "_") = false)
    (p0 : ∀ u v w : Int, pr P (part f0.type #[.int .i64 u, .int .i64 v, .int .i64 w] f0.offset) = some (.int .i64 u)) (p1 : ∀ u v w : Int, pr P (part f1.type #[.int .i64 u, .int .i64 v, .int .i64 w] f1.offset) = some (.int .i64 v)) (p2 : ∀ u v w : Int, pr P (part f2.type #[.int .i64 u, .int .i64 v, .int .i64 w] f2.offset) = some (.int .i64 w))
    (e0 : P.underlying f0.type = some (.int .i64)) (e1 : P.underlying f1.type = some (.int .i64)) (e2 : P.underlying f2.type = some (.int .i64)) :
    eff P site (.binOp .eql T x y yT) [.agg [vi a, vi b, vi c], .agg [vi a', vi b', vi c']] h = some (.val (.bool (decide (a = a' ∧ b = b' ∧ c = c'))), []) ∧
    eff P site (.binOp .neq T x y yT) [.agg [vi a, vi b, vi c], .agg [vi a', vi b', vi c']] h = some (.val (.bool (!decide (a = a' ∧ b = b' ∧ c = c'))), []) := by
  have hI : ∀ (d : Nat) (t : TypeId) (u v : Int), P.underlying t = some (.int .i64) → pr P (Op.equalIn (d + 1) t (.int .i64 u) (.int .i64 v)) = some (u == v) := by
    intro d t u v ht
    simp [Op.equalIn, pr_bind', pr_underlying ht, pr_pure]
  simp only [Bool.or_eq_false_iff] at hn
  have hf : P.fieldsOf T = #[f0, f1, f2] := by simp [Program.fieldsOf, hu]
  have key : pr P (Op.equal T (.agg #[.int .i64 a, .int .i64 b, .int .i64 c]) (.agg #[.int .i64 a', .int .i64 b', .int .i64 c'])) = some (decide (a = a' ∧ b = b' ∧ c = c')) := by
    unfold Op.equal Op.maxDepth
    rw [pr_equal_struct (P := P) 9999 T _ _ (by rw [hf]; exact hu) hp, hf]
    rw [pr_field (P := P) (r := a == a') (s := b == b' && (c == c' && true)) hn.1.1 (p0 _ _ _) (p0 _ _ _) (hI 9998 _ _ _ e0) (pr_field hn.1.2 (p1 _ _ _) (p1 _ _ _) (hI 9998 _ _ _ e1) (pr_field hn.2 (p2 _ _ _) (p2 _ _ _) (hI 9998 _ _ _ e2) rfl))]
    congr 1
    rw [Bool.eq_iff_iff]
    simp
  have tv : ∀ u v w : Int, toVal (.agg [vi u, vi v, vi w]) = some (.agg #[.int .i64 u, .int .i64 v, .int .i64 w]) := fun _ _ _ => rfl
  have k1 : pr P (binOp .eql T (.agg #[.int .i64 a, .int .i64 b, .int .i64 c]) (.agg #[.int .i64 a', .int .i64 b', .int .i64 c'])) = some (.bool (decide (a = a' ∧ b = b' ∧ c = c'))) := by
    show pr P ((Op.equal T _ _).bind fun z => Sem.pure (Value.bool z)) = _
    rw [pr_bind, key]; rfl
  have k2 : pr P (binOp .neq T (.agg #[.int .i64 a, .int .i64 b, .int .i64 c]) (.agg #[.int .i64 a', .int .i64 b', .int .i64 c'])) = some (.bool (!decide (a = a' ∧ b = b' ∧ c = c'))) := by
    show pr P ((Op.equal T _ _).bind fun z => Sem.pure (Value.bool (!z))) = _
    rw [pr_bind, key]; rfl
  constructor
  · simp only [eff, effBin, tv, pr_bind', pr_noguard hm, Option.bind_some, k1]; rfl
  · simp only [eff, effBin, tv, pr_bind', pr_noguard hm, Option.bind_some, k2]; rfl
end Go.Ai
