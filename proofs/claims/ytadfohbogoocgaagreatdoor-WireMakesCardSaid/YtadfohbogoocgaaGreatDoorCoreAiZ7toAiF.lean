/- A part of the proof: what the program does, step by step, over values without addresses. No conditions of mine. -/
import Derived.Test.YtadfohbogoocgaaGreatDoorCoreAiZ2toAiZf
import Derived.Laws.Strings
set_option linter.unusedVariables false
set_option linter.unusedSimpArgs false
namespace Go.Ai
open Go Go.RowKit

inductive Ex where
  | normal
  | exit (id : Nat)
  | ret
  deriving DecidableEq
def Ex.to : Ex → Exit
  | .normal => .normal
  | .exit id => .exit id
  | .ret => .ret
def Ex.inBlock (id : Nat) : Ex → Ex
  | .exit id' => if id' = id then .normal else .exit id'
  | x => x

def resL (P : Program) (fn : Func) (σ : St) : List ResultVar → Option (List V)
  | [] => some []
  | r :: rs =>
    match (match r with | .tmp t => some (σ.s t) | .cell a t => effLoad P t (σ.s a) σ.h : Option V), resL P fn σ rs with
    | some v, some vs => some (v :: vs)
    | _, _ => none
def oneV : List V → V
  | [v] => v
  | vs => .tup vs

def s0 (args : List V) : Nat → V := fun t => args.getD t (.val undef)

/-- Slots and blocks, written out: of what stands nowhere nothing is known. -/
def L (l : List V) : Nat → V := fun t => l.getD t .any
def HH (h : Nat → Option Blk) : List (Nat × Blk) → Nat → Option Blk
  | [] => h
  | (b, k) :: r => fun x => bif Nat.beq x b then some k else HH h r x
/-- Of the blocks that were handed in alone. -/
def odds (h : Nat → Option Blk) : Nat → Option Blk := fun b => bif Nat.beq (b % 2) 1 then (h b).map (fun k => bif k.cl then k else { k with es := [] }) else none

/-- A value under the names' new numbers. -/
inductive Ren (h : Nat → Option Blk) (H : List (Nat × Blk)) : V → V → Prop
  | any (v : V) : Ren h H v .any
  | same (v : V) (hc : clo1 v = true) : Ren h H v v
  | ipt (cs : List V) : Ren h H (.ipt cs) (.ipt cs)
  | nil (sz : Nat) : Ren h H .emp (.isl sz [])
  | frz (b ver off len : Nat) (v' : V) (hf : close0 h (.sl b ver off len) = some (v', [b])) (hd : HH (odds h) H b = none) : Ren h H (.sl b ver off len) v'
  | sl (b ver ver' off len : Nat) (k k' : Blk) (hk : h b = some k) (hv : k.ver = ver) (hk' : HH (odds h) H b = some k') (hv' : k'.ver = ver') : Ren h H (.sl b ver off len) (.sl b ver' off len)
  | ptr (b ver ver' i off : Nat) (k k' : Blk) (hk : h b = some k) (hv : k.ver = ver) (hk' : HH (odds h) H b = some k') (hv' : k'.ver = ver') : Ren h H (.ptr b ver i off) (.ptr b ver' i off)
  | agg (cs cs' : List V) (hl : cs'.length = cs.length) (hc : ∀ (j : Nat) c c', cs[j]? = some c → cs'[j]? = some c' → Ren h H c c') : Ren h H (.agg cs) (.agg cs')

/-- The blocks that are kept, under new numbers. -/
structure RenB (h : Nat → Option Blk) (H : List (Nat × Blk)) (b : Nat) (k' : Blk) : Prop where
  blk : ∃ k, h b = some k ∧ k'.sz = k.sz ∧ k'.wr = k.wr ∧ (b % 2 = 1 → k'.ver = k.ver) ∧ ((k.cl = true ∧ k'.es = k.es) ∨
    ((k'.cl = true → ∀ e ∈ k'.es, ∀ c ∈ e, clo0 c = true) ∧ k'.es.length = k.es.length ∧ ∀ (i : Nat) e e', k.es[i]? = some e → k'.es[i]? = some e' → e'.length = e.length ∧ ∀ (j : Nat) c c', e[j]? = some c → e'[j]? = some c' → c' ≠ .any ∧ Ren h H c c'))

/-- What is v may be read as v': nothing as a list of none. -/
inductive Lv : V → V → Prop
  | refl (v : V) : Lv v v
  | nil (sz : Nat) : Lv .emp (.isl sz [])
  | agg (cs cs' : List V) (hl : cs'.length = cs.length) (h : ∀ (j : Nat) c c', cs[j]? = some c → cs'[j]? = some c' → Lv c c') : Lv (.agg cs) (.agg cs')
theorem Lv.vr {E : Env} {v v' : V} (h : Lv v v') : ∀ {x : Value}, VR E v x → VR E v' x := by
  induction h with
  | refl v => exact fun h => h
  | nil sz =>
    intro x hx
    cases hx with
    | clo hx => cases hx with
      | emp a => exact .clo (.isl sz [] a 0 (fun _ _ => undef) (Nat.le_refl _) (fun e he => by cases he) (fun e he => by cases he) (fun h => absurd rfl h) (fun i j e c he => by simp at he) (fun i j e c he => by simp at he))
  | agg cs cs' hl _ ih =>
    intro x hx
    obtain ⟨xs, rfl, hs, hc⟩ := vr_agg hx
    refine .agg _ _ (by rw [hs, hl]) (fun j c' hj => ?_)
    have hlt : j < cs.length := by rw [← hl]; exact (List.getElem?_eq_some_iff.1 hj).1
    have hc0 : cs[j]? = some cs[j] := List.getElem?_eq_getElem hlt
    exact ih j _ _ hc0 hj (hc j _ hc0)

inductive Job where
  | code (nt : Nat) (c : Code) (σ : St) (x : Ex) (σ' : St)
  | ops (nt : Nat) (rid : Nat) (ops : Array Oper) (l : List Nat) (σ : St) (recs : List Rec) (σ' : St)
  | call (f : FuncId) (args : List V) (pts : List (Nat × List V)) (res : V) (pts' : List (Nat × List V)) (outs : List Blk)

/-- The name of a place in a function's text: the region and the operation's number in it. -/
def siteOf (rid i : Nat) : Nat := rid * 512 + i

def dstOk (nt : Nat) (o : Oper) : Bool := match o.dst with | some d => decide (d < nt) | none => true

def St.to (σ : St) (d : Option Tmp) (v : V) (ups : List (Nat × Blk)) : St := ⟨put σ.s d v, updAll σ.h ups⟩
def valsOf (o : Oper) (s : Nat → V) : List V := o.op.operands.toList.map (evalO s)
def hrAt (site : Nat) (vals : List V) (h : Nat → Option Blk) : Nat → Option Blk := restrict h (reach site vals h)
def recSkip (i : Nat) (o : Oper) (site : Nat) : Rec := ⟨i, o, true, site, [], fun _ => none, [], .val undef, []⟩
def recDo (i : Nat) (o : Oper) (site : Nat) (vals : List V) (h : Nat → Option Blk) (v : V) (ups : List (Nat × Blk)) : Rec := ⟨i, o, false, site, vals, hrAt site vals h, reach site vals h, v, ups⟩

/-- The interpreter's runs. X: what is known of functions otherwise. -/
inductive Run (P : Program) (X : FuncId → List V → List (Nat × List V) → V → List (Nat × List V) → List Blk → Prop) : Job → Prop
  | nil {nt rid : Nat} {ops : Array Oper} {σ : St} : Run P X (.ops nt rid ops [] σ [] σ)
  | skip {nt rid : Nat} {ops : Array Oper} {i : Nat} {l : List Nat} {σ σ' : St} {recs : List Rec} {o : Oper} (ho : ops[i]? = some o) (hg : guardV ops σ.s o = some false) (hd : dstOk nt o = true)
      (h : Run P X (.ops nt rid ops l (σ.to o.dst (.val undef) []) recs σ')) : Run P X (.ops nt rid ops (i :: l) σ (recSkip i o (siteOf rid i) :: recs) σ')
  | eff {nt rid : Nat} {ops : Array Oper} {i : Nat} {l : List Nat} {σ σ' : St} {recs : List Rec} {o : Oper} {v : V} {ups : List (Nat × Blk)} (ho : ops[i]? = some o) (hg : guardV ops σ.s o = some true) (hd : dstOk nt o = true)
      (he : eff P (siteOf rid i) o.op (valsOf o σ.s) (hrAt (siteOf rid i) (valsOf o σ.s) σ.h) = some (v, ups)) (h : Run P X (.ops nt rid ops l (σ.to o.dst v ups) recs σ')) :
      Run P X (.ops nt rid ops (i :: l) σ (recDo i o (siteOf rid i) (valsOf o σ.s) σ.h v ups :: recs) σ')
  | enter {nt rid : Nat} {ops : Array Oper} {i : Nat} {l : List Nat} {σ σ' : St} {recs : List Rec} {o : Oper} {fo : Operand} {args : Array Operand} {ats : Array TypeId} {f : FuncId} {p : Prep} {res : V} {pts' : List (Nat × List V)} {outs : List Blk}
      (ho : ops[i]? = some o) (hg : guardV ops σ.s o = some true) (hd : dstOk nt o = true) (hop : o.op = .call ⟨.value fo, args, ats⟩) (hf : calleeOf (evalO σ.s fo) = some f) (hcb : callable P f = true)
      (hp : prep (hrAt (siteOf rid i) (valsOf o σ.s) σ.h) (args.toList.map (evalO σ.s)) 0 = some p) (hpok : prepOk (siteOf rid i) p = true)
      (hcall : Run P X (.call f p.args (ptsOf p) res pts' outs)) (hnp : pts'.length = p.pts.length) (hout : outsOk res outs = true)
      (h : Run P X (.ops nt rid ops l (σ.to o.dst (rn (siteOf rid i) (hrAt (siteOf rid i) (valsOf o σ.s) σ.h) res) (callUps (siteOf rid i) (hrAt (siteOf rid i) (valsOf o σ.s) σ.h) p res pts' outs)) recs σ')) :
      Run P X (.ops nt rid ops (i :: l) σ (recDo i o (siteOf rid i) (valsOf o σ.s) σ.h (rn (siteOf rid i) (hrAt (siteOf rid i) (valsOf o σ.s) σ.h) res) (callUps (siteOf rid i) (hrAt (siteOf rid i) (valsOf o σ.s) σ.h) p res pts' outs) :: recs) σ')
  | eat {nt rid : Nat} {ops : Array Oper} {i : Nat} {l : List Nat} {σ σ' : St} {recs : List Rec} {o : Oper} {fo : Operand} {args : Array Operand} {ats : Array TypeId} {f : FuncId} {b ver len : Nat} {k : Blk} {es es' : List (List Value)} {rest : List Value} {out : Option Nat}
      (ho : ops[i]? = some o) (hg : guardV ops σ.s o = some true) (hd : dstOk nt o = true) (hop : o.op = .call ⟨.value fo, args, ats⟩) (hf : calleeOf (evalO σ.s fo) = some f) (hcb : callable P f = true)
      (hvs : args.toList.map (evalO σ.s) = .sl b ver 0 len :: rest.map V.val) (hk : live (hrAt (siteOf rid i) (valsOf o σ.s) σ.h) b ver = some k) (hes : k.es = es.map (·.map V.val)) (hc : eatB k len es es' = true) (he : EatOk P f k.sz len es rest out es')
      (h : Run P X (.ops nt rid ops l (σ.to o.dst (eatV b ver out) [(b, eatK k es')]) recs σ')) :
      Run P X (.ops nt rid ops (i :: l) σ (recDo i o (siteOf rid i) (valsOf o σ.s) σ.h (eatV b ver out) [(b, eatK k es')] :: recs) σ')
  | fresh {nt rid : Nat} {ops : Array Oper} {i : Nat} {l : List Nat} {σ σ' : St} {recs : List Rec} {o : Oper} {fo : Operand} {args : Array Operand} {ats : Array TypeId} {f : FuncId} {vs : List V} {res : V}
      (ho : ops[i]? = some o) (hg : guardV ops σ.s o = some true) (hd : dstOk nt o = true) (hop : o.op = .call ⟨.value fo, args, ats⟩) (hf : calleeOf (evalO σ.s fo) = some f) (hcb : callable P f = true)
      (hvs : args.toList.map (evalO σ.s) = vs) (hvn : vs.all ns1 = true) (hcall : Run P X (.call f vs [] res [] [])) (hclo : clo2 res = true)
      (h : Run P X (.ops nt rid ops l (σ.to o.dst (nsf (newId (siteOf rid i) 0) (nextVer (hrAt (siteOf rid i) (valsOf o σ.s) σ.h) (newId (siteOf rid i) 0)) res) [(newId (siteOf rid i) 0, tokB (nextVer (hrAt (siteOf rid i) (valsOf o σ.s) σ.h) (newId (siteOf rid i) 0)))]) recs σ')) :
      Run P X (.ops nt rid ops (i :: l) σ (recDo i o (siteOf rid i) (valsOf o σ.s) σ.h (nsf (newId (siteOf rid i) 0) (nextVer (hrAt (siteOf rid i) (valsOf o σ.s) σ.h) (newId (siteOf rid i) 0)) res) [(newId (siteOf rid i) 0, tokB (nextVer (hrAt (siteOf rid i) (valsOf o σ.s) σ.h) (newId (siteOf rid i) 0)))] :: recs) σ')
  | peek {nt rid : Nat} {ops : Array Oper} {i : Nat} {l : List Nat} {σ σ' : St} {recs : List Rec} {o : Oper} {fo : Operand} {args : Array Operand} {ats : Array TypeId} {f : FuncId} {res : V}
      (ho : ops[i]? = some o) (hg : guardV ops σ.s o = some true) (hd : dstOk nt o = true) (hop : o.op = .call ⟨.value fo, args, ats⟩) (hf : calleeOf (evalO σ.s fo) = some f) (hcb : callable P f = true)
      (hcall : Run P X (.call f ((args.toList.map (evalO σ.s)).map (lend1 (hrAt (siteOf rid i) (valsOf o σ.s) σ.h))) [] res [] [])) (hclo : ((args.toList.map (evalO σ.s)).map (lend1 (hrAt (siteOf rid i) (valsOf o σ.s) σ.h))).all clo1 = true) (hns : ns2 res = true)
      (h : Run P X (.ops nt rid ops l (σ.to o.dst res []) recs σ')) :
      Run P X (.ops nt rid ops (i :: l) σ (recDo i o (siteOf rid i) (valsOf o σ.s) σ.h res [] :: recs) σ')
  | eatn {nt rid : Nat} {ops : Array Oper} {i : Nat} {l : List Nat} {σ σ' : St} {recs : List Rec} {o : Oper} {fo : Operand} {args : Array Operand} {ats : Array TypeId} {f : FuncId} {b ver sz : Nat} {es : List (List V)} {k : Blk}
      (ho : ops[i]? = some o) (hg : guardV ops σ.s o = some true) (hd : dstOk nt o = true) (hop : o.op = .call ⟨.value fo, args, ats⟩) (hf : calleeOf (evalO σ.s fo) = some f) (hcb : callable P f = true)
      (hvs : args.toList.map (evalO σ.s) = [.nsl b ver sz es]) (hk : live (hrAt (siteOf rid i) (valsOf o σ.s) σ.h) b ver = some k) (he : EatNOk P f sz es)
      (h : Run P X (.ops nt rid ops l (σ.to o.dst (.val (.tuple #[])) [(b, tokB (ver + 1))]) recs σ')) :
      Run P X (.ops nt rid ops (i :: l) σ (recDo i o (siteOf rid i) (valsOf o σ.s) σ.h (.val (.tuple #[])) [(b, tokB (ver + 1))] :: recs) σ')
  | cskip {nt : Nat} {σ : St} : Run P X (.code nt .skip σ .normal σ)
  | label {nt : Nat} {σ : St} {l : Nat} : Run P X (.code nt (.label l) σ .normal σ)
  | exit {nt : Nat} {σ : St} {id : Nat} : Run P X (.code nt (.exit id) σ (.exit id) σ)
  | ret {nt : Nat} {σ : St} : Run P X (.code nt .ret σ .ret σ)
  | region {nt : Nat} {σ σ' : St} {id : Nat} {ops : Array Oper} {draw : Bool} {recs : List Rec} (h : Run P X (.ops nt id ops (List.range ops.size) σ recs σ')) (ho : draw = true → backB ops = true ∧ orderB ops (ancL ops) recs = true) :
      Run P X (.code nt (.region id ops draw) σ .normal σ')
  | seq {nt : Nat} {σ σ1 σ' : St} {a b : Code} {x : Ex} (ha : Run P X (.code nt a σ .normal σ1)) (hb : Run P X (.code nt b σ1 x σ')) : Run P X (.code nt (.seq a b) σ x σ')
  | seqx {nt : Nat} {σ σ' : St} {a b : Code} {x : Ex} (ha : Run P X (.code nt a σ x σ')) (hx : x ≠ .normal) : Run P X (.code nt (.seq a b) σ x σ')
  | cond {nt : Nat} {σ σ' : St} {c : Operand} {t e : Code} {x : Ex} {b : Bool} (hc : evalO σ.s c = .val (.bool b)) (h : Run P X (.code nt (if b then t else e) σ x σ')) : Run P X (.code nt (.cond c t e) σ x σ')
  | block {nt : Nat} {σ σ' : St} {id : Nat} {c : Code} {x y : Ex} (h : Run P X (.code nt c σ x σ')) (hy : x.inBlock id = y) : Run P X (.code nt (.block id c) σ y σ')
  | loop {nt : Nat} {σ σ1 σ' : St} {c : Code} {x : Ex} (h : Run P X (.code nt c σ .normal σ1)) (hl : Run P X (.code nt (.loop c) σ1 x σ')) : Run P X (.code nt (.loop c) σ x σ')
  | loopx {nt : Nat} {σ σ' : St} {c : Code} {x : Ex} (h : Run P X (.code nt c σ x σ')) (hx : x ≠ .normal) : Run P X (.code nt (.loop c) σ x σ')
  | weak {nt : Nat} {c : Code} {σ σ2 σ' : St} {x : Ex} (hs : ∀ t, σ2.s t = σ.s t ∨ σ2.s t = .any) (hh : σ2.h = σ.h) (h : Run P X (.code nt c σ2 x σ')) : Run P X (.code nt c σ x σ')
  | canon {nt : Nat} {c : Code} {σ σ' : St} {x : Ex} (l : List V) (H : List (Nat × Blk)) (hl : ∀ t, Ren σ.h H (σ.s t) (L l t)) (hH : ∀ b k', (b, k') ∈ H → RenB σ.h H b k') (h : Run P X (.code nt c ⟨L l, HH (odds σ.h) H⟩ x σ')) : Run P X (.code nt c σ x σ')
  | virt {nt : Nat} {c : Code} {σ σ' : St} {x : Ex} (t id : Nat) (B : Blk) (ht : σ.s t = .emp) (hv : B.ver = nextVer σ.h id) (he : B.es = []) (h : Run P X (.code nt c ⟨upd σ.s t (.sl id B.ver 0 0), upd σ.h id (some B)⟩ x σ')) : Run P X (.code nt c σ x σ')
  | call {f : FuncId} {fn : Func} {body : Code} {args : List V} {pts : List (Nat × List V)} {σ : St} {x : Ex} {vs vs' : List V} {o s1 s2 : List Nat} {pts' : List (Nat × List V)} (hf : P.funcs[f]? = some fn) (hb : fn.body = some body) (hn : args.length ≤ fn.ntmps)
      (h : Run P X (.code fn.ntmps body { s := s0 args, h := h0 pts } x σ)) (hx : x = .normal ∨ x = .ret) (hr : resL P fn σ fn.results.toList = some vs) (hc : closeR σ.h vs [] = some (vs', o, s1)) (he : endPts σ.h pts.length 0 = some (pts', s2))
      (hd : o.all (fun b => !(s1 ++ s2).contains b) = true) : Run P X (.call f args pts (oneV vs') pts' (outsOf σ.h o))
  | wk {f : FuncId} {args args' : List V} {pts : List (Nat × List V)} {res : V} {pts' : List (Nat × List V)} {outs : List Blk} (hl : args'.length = args.length) (hL : ∀ (j : Nat) v', args'[j]? = some v' → ∃ v, args[j]? = some v ∧ Lv v v') (h : Run P X (.call f args' pts res pts' outs)) : Run P X (.call f args pts res pts' outs)
  | known {f : FuncId} {args : List V} {pts : List (Nat × List V)} {res : V} {pts' : List (Nat × List V)} {outs : List Blk} (h : X f args pts res pts' outs) : Run P X (.call f args pts res pts' outs)

/-- From a loop's body on. -/
def Rounds (P : Program) (c : Code) (Q : Exit → Act → World → Prop) (a : Act) (w : World) : Prop :=
  ∀ (b : Frame) (k : List Item) (cs : List Frame), ∃ e a' w', Q e a' w' ∧ Arrives P (lone (b.at a (.code c :: .inLoop c :: k)) cs w) b k cs e a' w'
theorem Rounds.wp {P : Program} {c : Code} {Q : Exit → Act → World → Prop} {a : Act} {w : World} (h : Rounds P c Q a w) : (Code.loop c).wp P Q a w := fun b k cs => by
  obtain ⟨e, a', w', h1, h2⟩ := h b k cs
  exact ⟨e, a', w', h1, .of_steps (.one step_loop) h2⟩
theorem Rounds.more {P : Program} {c : Code} {Q : Exit → Act → World → Prop} {a : Act} {w : World} (h : c.wp P (Exit.then (Rounds P c Q) (fun _ _ _ => False)) a w) : Rounds P c Q a w := fun b k cs => by
  obtain ⟨e, a1, w1, hq1, harr⟩ := h b (.inLoop c :: k) cs
  cases e with
  | normal =>
    obtain ⟨e2, a2, w2, hq2, harr2⟩ := hq1 b k cs
    exact ⟨e2, a2, w2, hq2, .of_steps (Steps.trans harr (.one step_inLoop)) harr2⟩
  | _ => exact hq1.elim
theorem Rounds.out {P : Program} {c : Code} {Q : Exit → Act → World → Prop} {a : Act} {w : World} {x : Ex} (hx : x ≠ .normal) (h : c.wp P (fun e a' w' => e = x.to ∧ Q e a' w') a w) : Rounds P c Q a w := fun b k cs => by
  obtain ⟨e, a1, w1, ⟨rfl, hq1⟩, harr⟩ := h b (.inLoop c :: k) cs
  refine ⟨x.to, a1, w1, hq1, .pass (x := .inLoop c) rfl (fun _ _ => .inl ?_) harr⟩
  cases x <;> first | exact absurd rfl hx | simp [Ex.to]

def Sound (P : Program) (S : Sys) : Job → Prop
  | .code nt c σ x σ' => (∀ (C : Cfg), C.S = S → ∀ (E0 : Env) (a : Act) (E : Env) (Q : Exit → Act → World → Prop), Sim C E0 nt σ a E → (∀ a' E', Sim C E0 nt σ' a' E' → Q x.to a' E'.w) → c.wp P Q a E.w) ∧
      ∀ body, c = .loop body → ∀ (C : Cfg), C.S = S → ∀ (E0 : Env) (a : Act) (E : Env) (Q : Exit → Act → World → Prop), Sim C E0 nt σ a E → (∀ a' E', Sim C E0 nt σ' a' E' → Q x.to a' E'.w) → Rounds P body Q a E.w
  | .ops nt _ ops l σ recs σ' => Chain ops nt σ recs σ' ∧ recs.map (·.i) = l ∧ ∀ r ∈ recs, StepOk P S nt ops r
  | .call f args pts res pts' outs => CallOk P S f args pts res pts' outs

theorem dstOk_spec {nt : Nat} {o : Oper} (h : dstOk nt o = true) : ∀ d, o.dst = some d → d < nt := by
  intro d hd
  unfold dstOk at h
  rw [hd] at h
  simpa using h

theorem res_ok {P : Program} {C : Cfg} {E0 : Env} {nt : Nat} {fn : Func} {σ : St} {a : Act} {E : Env} (hs : Sim C E0 nt σ a E) : ∀ {l : List ResultVar} {vs : List V}, resL P fn σ l = some vs →
    ∃ xs : List Value, (l.mapM fun (r : ResultVar) => match r with
      | .tmp t => (pure (a.tmps.getD t undef) : Sem Value)
      | .cell ad t => do loadVar t (← asAddr (a.tmps.getD ad undef))).run P E.w = .ok xs E.w ∧ xs.length = vs.length ∧ ∀ (j : Nat) v, vs[j]? = some v → VR E v (xs.getD j undef)
  | [], vs, h => by
    simp [resL] at h
    subst h
    exact ⟨[], rfl, rfl, fun j v hj => by simp at hj⟩
  | r :: l, vs, h => by
    simp only [resL] at h
    split at h
    · rename_i v vs1 h1 h2
      obtain rfl := Option.some.inj h
      obtain ⟨xs, hrun, hlen, hrel⟩ := res_ok hs h2
      have hone : ∃ y, (match r with
        | .tmp t => (pure (a.tmps.getD t undef) : Sem Value)
        | .cell ad t => do loadVar t (← asAddr (a.tmps.getD ad undef))).run P E.w = .ok y E.w ∧ VR E v y := by
        cases r with
        | tmp t =>
          obtain rfl := Option.some.inj h1
          exact ⟨_, rfl, hs.s t⟩
        | cell ad t =>
          simp only at h1
          have H : HR σ.h E.h 0 := ⟨fun b k hb => by rw [hs.h]; exact hb, by rw [hs.h]⟩
          obtain ⟨y, hy1, hy2⟩ := load_ok (P := P) hs.good H (hs.s ad) h1
          refine ⟨y, ?_, hy2⟩
          unfold Instr.loadAt at hy1
          simp only [Sem.run_bind] at hy1 ⊢
          cases hv : a.tmps.getD ad undef with
          | pointer p =>
            rw [hv] at hy1
            cases p with
            | none => simp [Instr.sureAddr, stuck, Result.andThen] at hy1
            | some p => simpa [Instr.sureAddr, asAddr] using hy1
          | _ =>
            rw [hv] at hy1
            simp [Instr.sureAddr, stuck, Result.andThen] at hy1
      obtain ⟨y, hy1, hy2⟩ := hone
      refine ⟨y :: xs, ?_, by simp [hlen], fun j u hj => ?_⟩
      · rw [List.mapM_cons]
        simp only [Sem.run_bind, hy1, Result.andThen, hrun]
        rfl
      · cases j with
        | zero => simp at hj; subst hj; exact hy2
        | succ j => simpa using hrel j u (by simpa using hj)
    · cases h

theorem HH_cases {h : Nat → Option Blk} : ∀ {H : List (Nat × Blk)} {b : Nat} {k : Blk}, HH h H b = some k → (b, k) ∈ H ∨ h b = some k
  | [], b, k, hh => .inr hh
  | (c, k2) :: r, b, k, hh => by
    simp only [HH] at hh
    cases hb : Nat.beq b c with
    | true => rw [hb] at hh; simp only [cond_true] at hh; rw [Nat.eq_of_beq_eq_true hb, Option.some.inj hh]; exact .inl (by simp)
    | false =>
      rw [hb] at hh
      simp only [cond_false] at hh
      rcases HH_cases hh with h1 | h1
      · exact .inl (by simp [h1])
      · exact .inr h1
theorem odds_some {h : Nat → Option Blk} {b : Nat} {k' : Blk} (hh : odds h b = some k') : b % 2 = 1 ∧ ∃ k, h b = some k ∧ k'.ver = k.ver ∧ k'.sz = k.sz ∧ k'.wr = k.wr ∧ ((k.cl = true ∧ k' = k) ∨ (k'.es = [] ∧ k.cl = false)) := by
  unfold odds at hh
  cases hb : Nat.beq (b % 2) 1 with
  | true =>
    rw [hb] at hh
    simp only [cond_true, Option.map_eq_some_iff] at hh
    obtain ⟨k, hk, rfl⟩ := hh
    refine ⟨Nat.eq_of_beq_eq_true hb, k, hk, ?_⟩
    cases hc : k.cl with
    | true => simp
    | false => simp
  | false => rw [hb] at hh; cases hh

/-- What a kept block was. -/
theorem kept_ok {h : Nat → Option Blk} {H : List (Nat × Blk)} (hH : ∀ b k', (b, k') ∈ H → RenB h H b k') {b : Nat} {k' : Blk} (hh : HH (odds h) H b = some k') :
    ∃ k, h b = some k ∧ k'.sz = k.sz ∧ k'.wr = k.wr ∧ (b % 2 = 1 → k'.ver = k.ver) ∧ ((k.cl = true ∧ k'.es = k.es) ∨ k'.es = [] ∨
    ((k'.cl = true → ∀ e ∈ k'.es, ∀ c ∈ e, clo0 c = true) ∧ k'.es.length = k.es.length ∧ ∀ (i : Nat) e e', k.es[i]? = some e → k'.es[i]? = some e' → e'.length = e.length ∧ ∀ (j : Nat) c c', e[j]? = some c → e'[j]? = some c' → c' ≠ .any ∧ Ren h H c c')) := by
  rcases HH_cases hh with h1 | h1
  · obtain ⟨k, a1, a2, a3, a4, a5⟩ := (hH b k' h1).blk
    exact ⟨k, a1, a2, a3, a4, a5.elim .inl (fun h => .inr (.inr h))⟩
  · obtain ⟨_, k, a1, a2, a3, a4, a5⟩ := odds_some h1
    refine ⟨k, a1, a3, a4, fun _ => a2, ?_⟩
    rcases a5 with ⟨c1, c2⟩ | ⟨c1, _⟩
    · exact .inl ⟨c1, by rw [c2]⟩
    · exact .inr (.inl c1)

/-- What may be read from then on: the blocks that are dropped, too. -/
def canonI (E : Env) (h : Nat → Option Blk) (H : List (Nat × Blk)) : Nat → Prop := fun g => E.I g ∨ ∃ b c, h b ≠ none ∧ HH (odds h) H b = none ∧ E.ρ b = some (g, c)
theorem ren_vr {C : Cfg} {E : Env} (G : Good C E) {h : Nat → Option Blk} {H : List (Nat × Blk)} (hh : E.h = h) (hH : ∀ b k', (b, k') ∈ H → RenB h H b k') {v v' : V} {x : Value} (hr : Ren h H v v') (hv : VR E v x) :
    VR ⟨E.w, canonI E h H, E.J, fun b => if (HH (odds h) H b).isSome then E.ρ b else none, HH (odds h) H⟩ v' x := by
  induction hr generalizing x with
  | any v => exact .any _
  | same v hc =>
    have h5 : CR E.w E.I v x := clo1_cr hv hc
    exact .clo (h5.mono (fun _ hg => .inl hg) (fun _ _ _ => rfl))
  | nil sz =>
    have h5 : CR E.w E.I .emp x := clo0_cr hv rfl
    cases h5
    exact .clo (.isl sz [] _ 0 (fun _ _ => undef) (Nat.le_refl _) (by simp) (by simp) (fun h => absurd rfl h) (by simp) (by simp))
  | ipt cs =>
    obtain ⟨b, o, rfl, hat, hok, hI⟩ := vr_ipt hv
    refine mk_ipt (fun j c hj => ?_) hok (fun hne => .inl (hI hne))
    obtain ⟨y, h1, h2⟩ := hat j c hj
    have h5 : CR E.w E.I c y := clo0_cr h2 (hok c (List.mem_of_getElem? hj)).2
    exact ⟨y, h1, .clo (h5.mono (fun _ hg => .inl hg) (fun _ _ _ => rfl))⟩
  | frz b ver off len v' hf hd =>
    obtain ⟨q1, _, _, q4⟩ := close0_ok G (hr := h) (fun b k hb => by rw [hh]; exact hb) hf
    exact .clo (q1 x (canonI E h H) hv (fun _ hg => .inl hg) (fun b' hb' g n hρ => .inr ⟨b', n, (q4 b' hb').2, by rw [List.mem_singleton.1 hb']; exact hd, hρ⟩))
  | sl b ver ver' off len k k' hk hv0 hk' hv' =>
    obtain ⟨k2, a1, a2, a3, a4, a5⟩ := kept_ok hH hk'
    rw [hk] at a1; obtain rfl := Option.some.inj a1
    have hsh : ∃ a n c, x = .slice a n c := by
      cases hv with
      | clo h => cases h
      | sl _ _ _ _ _ _ hs => exact hs
    refine .sl _ _ _ _ _ k' hsh hk' (by omega) (fun _ => ?_)
    have := vr_sl hv (by rw [hh]; exact hk) hv0
    simp only [hk', Option.isSome_some, if_true, a2]
    exact this
  | ptr b ver ver' i off k k' hk hv0 hk' hv' =>
    obtain ⟨k2, a1, a2, a3, a4, a5⟩ := kept_ok hH hk'
    rw [hk] at a1; obtain rfl := Option.some.inj a1
    have := vr_ptr hv (by rw [hh]; exact hk) hv0
    obtain ⟨g, c, h1, h2⟩ := this
    refine .ptr _ _ _ _ _ k' ⟨_, h2⟩ hk' (by omega) (fun _ => ⟨g, c, ?_, ?_⟩)
    · simp only [hk', Option.isSome_some, if_true]; exact h1
    · rw [a2]; exact h2
  | agg cs cs' hl hc ih =>
    obtain ⟨xs, rfl, hs, hx⟩ := vr_agg hv
    refine .agg _ _ (by omega) (fun j c' hj => ?_)
    have hlt := (List.getElem?_eq_some_iff.1 hj).1
    have hjc : cs[j]? = some (cs[j]'(by omega)) := List.getElem?_eq_getElem (by omega)
    exact ih j _ c' hjc hj (hx j _ hjc)

theorem ren_ok {h : Nat → Option Blk} {H : List (Nat × Blk)} {c c' : V} (hr : Ren h H c c') (hne : c' ≠ .any) (hok : cellOk c = true) : cellOk c' = true := by
  cases hr with
  | any => exact absurd rfl hne
  | same => exact hok
  | nil => rfl
  | frz _ _ _ _ _ hf =>
    unfold close0 at hf
    split at hf
    all_goals first | (split at hf <;> first | (split at hf <;> first | (obtain ⟨rfl, _⟩ := Prod.mk.inj (Option.some.inj hf); rfl) | cases hf) | cases hf) | cases hf | skip
    all_goals first | rfl | (rename_i he; cases he)
  | ipt => rfl
  | sl => rfl
  | ptr => rfl
  | agg => cases hok

def canonE (E : Env) (h : Nat → Option Blk) (H : List (Nat × Blk)) : Env := ⟨E.w, canonI E h H, E.J, fun b => if (HH (odds h) H b).isSome then E.ρ b else none, HH (odds h) H⟩
theorem canon_ok {C : Cfg} {E0 E : Env} {nt : Nat} {σ : St} {a : Act} (hs : Sim C E0 nt σ a E) {l : List V} {H : List (Nat × Blk)} (hl : ∀ t, Ren σ.h H (σ.s t) (L l t)) (hH : ∀ b k', (b, k') ∈ H → RenB σ.h H b k') :
    Sim C E0 nt ⟨L l, HH (odds σ.h) H⟩ a (canonE E σ.h H) := by
  unfold canonE
  have G := hs.good
  have hρ : ∀ b g c, (if (HH (odds σ.h) H b).isSome = true then E.ρ b else none) = some (g, c) → E.ρ b = some (g, c) := fun b g c h => by split at h <;> first | exact h | cases h
  have hold : ∀ b g c, σ.h b ≠ none → E.ρ b = some (g, c) → g < E.w.heap.size := fun b g c hb hr => by
    cases hk : σ.h b with
    | none => exact absurd hk hb
    | some k =>
      rcases G.blk b k (by rw [hs.h]; exact hk) with ⟨h0, _⟩ | ⟨g', cap, h1, h2, _⟩
      · rw [h0] at hr; cases hr
      · rw [h1] at hr; obtain ⟨rfl, rfl⟩ := Prod.mk.inj (Option.some.inj hr); exact h2
  have hevn : ∀ b, σ.h b ≠ none → HH (odds σ.h) H b = none → b % 2 = 0 := fun b hb hd => by
    rcases Nat.mod_two_eq_zero_or_one b with h | h
    · exact h
    · exfalso
      cases hk : σ.h b with
      | none => exact hb hk
      | some k =>
        have hbase : ∃ k', odds σ.h b = some k' := ⟨bif k.cl then k else { k with es := [] }, by unfold odds; rw [h, hk]; rfl⟩
        have : ∀ H' : List (Nat × Blk), ∃ k', HH (odds σ.h) H' b = some k' := by
          intro H'
          induction H' with
          | nil => exact hbase
          | cons q r ih =>
            obtain ⟨b2, k2⟩ := q
            simp only [HH]
            cases Nat.beq b b2 with
            | true => exact ⟨k2, rfl⟩
            | false => exact ih
        obtain ⟨k', h'⟩ := this H
        rw [h'] at hd; cases hd
  have hiold : ∀ g, canonI E σ.h H g → g < E.w.heap.size := fun g hg => by
    rcases hg with h | ⟨b, c, h1, h2, h3⟩
    · exact G.iold g h
    · exact hold b g c h1 h3
  have hisub : ∀ g, canonI E σ.h H g → C.I0 g ∨ (C.w0.heap.size ≤ g ∧ Free E.w g) := fun g hg => by
    rcases hg with h | ⟨b, c, h1, h2, h3⟩
    · exact G.isub g h
    · cases hk : σ.h b with
      | none => exact absurd hk h1
      | some k =>
        rcases G.blk b k (by rw [hs.h]; exact hk) with ⟨h0, _⟩ | ⟨g', cap, b1, b2, b3, b4, b5, b6, b7, b8, b9⟩
        · rw [h0] at h3; cases h3
        · rw [b1] at h3; obtain ⟨rfl, rfl⟩ := Prod.mk.inj (Option.some.inj h3)
          cases hw : k.wr with
          | false => exact G.isub _ (b9 hw)
          | true =>
            rcases G.own b _ _ b1 with ⟨j, rfl, _⟩ | h
            · have := hevn _ h1 h2; omega
            · exact .inr ⟨h.1, b4 hw⟩
  refine ⟨⟨fun b k' hk' => ?_, fun b b' g c c' h1 h2 => G.inj _ _ _ _ _ (hρ _ _ _ h1) (hρ _ _ _ h2), hiold, hisub, fun b g c h => G.own _ _ _ (hρ _ _ _ h), fun b hb => ?_, G.os, G.tape, G.output, G.size, G.frame, fun b g c h => G.lo _ _ _ (hρ _ _ _ h), G.lo0, G.u, fun b g hj => ?_⟩, rfl, fun t => ren_vr G hs.h hH (hl t) (hs.s t), hs.n, hs.d, ⟨fun g hg => .inl (hs.x.I g hg), hs.x.w, fun b k0 hk0 => ?_, fun b k0 k' hk0 hk' e => ?_⟩, hs.e⟩
  · have hk' : HH (odds σ.h) H b = some k' := hk'
    obtain ⟨k, a1, a2, a3, a4, a5⟩ := kept_ok hH hk'
    have e : (if (HH (odds σ.h) H b).isSome = true then E.ρ b else none) = E.ρ b := by rw [hk']; rfl
    unfold BR
    simp only [e]
    rcases G.blk b k (by rw [hs.h]; exact a1) with ⟨h0, he⟩ | ⟨g, cap, b1, b2, b3, b4, b5, b6, b7, b8, b9⟩
    · refine .inl ⟨h0, ?_⟩
      rcases a5 with ⟨_, h⟩ | h | ⟨_, h, _⟩
      · rw [h, he]
      · exact h
      · exact List.eq_nil_of_length_eq_zero (by rw [h, he]; rfl)
    · refine .inr ⟨g, cap, b1, b2, b3, fun hw => b4 (by rw [← a3]; exact hw), fun e' he' => ?_, ?_, fun i j e' c' he' hj' => ?_, (fun hw hI => by
        rcases hI with hI | ⟨b', c, q1, q2, q3⟩
        · exact b8 (by rw [← a3]; exact hw) hI
        · have := G.inj _ _ _ _ _ b1 q3; subst this; rw [hk'] at q2; cases q2), fun hw => .inl (b9 (by rw [← a3]; exact hw))⟩
      · rcases a5 with ⟨_, h⟩ | h | ⟨_, h, h2⟩
        · rw [h] at he'; rw [a2]; exact b5 e' he'
        · rw [h] at he'; cases he'
        · obtain ⟨i, hi⟩ := List.getElem?_of_mem he'
          have hlt := (List.getElem?_eq_some_iff.1 hi).1
          have hik : k.es[i]? = some (k.es[i]'(by omega)) := List.getElem?_eq_getElem (by omega)
          rw [(h2 i _ e' hik hi).1, a2]
          exact b5 _ (List.mem_of_getElem? hik)
      · rcases a5 with ⟨_, h⟩ | h | ⟨_, h, h2⟩
        · rw [h, a2]; exact b6
        · rw [h]; simp
        · rw [h, a2]; exact b6
      · rcases a5 with ⟨hcl, h⟩ | h | ⟨hcl, h, h2⟩
        · rw [h] at he'
          obtain ⟨⟨x, hx1, hx2⟩, hx3, hx4⟩ := b7 i j e' c' he' hj'
          have h5 : CR E.w E.I c' x := clo0_cr hx2 (hx4 hcl)
          exact ⟨⟨x, by rw [a2]; exact hx1, .clo (h5.mono (fun _ hg => .inl hg) (fun _ _ _ => rfl))⟩, hx3, fun _ => hx4 hcl⟩
        · rw [h] at he'; simp at he'
        · have hlt := (List.getElem?_eq_some_iff.1 he').1
          have hik : k.es[i]? = some (k.es[i]'(by omega)) := List.getElem?_eq_getElem (by omega)
          obtain ⟨q1, q2⟩ := h2 i _ e' hik he'
          have hlt2 := (List.getElem?_eq_some_iff.1 hj').1
          have hjk : (k.es[i]'(by omega))[j]? = some ((k.es[i]'(by omega))[j]'(by omega)) := List.getElem?_eq_getElem (by omega)
          obtain ⟨q3, q4⟩ := q2 j _ c' hjk hj'
          obtain ⟨⟨x, hx1, hx2⟩, hx3, hx4⟩ := b7 i j _ _ hik hjk
          exact ⟨⟨x, by rw [a2]; exact hx1, ren_vr G hs.h hH q4 hx2⟩, ren_ok q4 q3 hx3, fun h => hcl h _ (List.mem_of_getElem? he') _ (List.mem_of_getElem? hj')⟩
  · show HH (odds σ.h) H b ≠ none
    have hb : (if (HH (odds σ.h) H b).isSome = true then E.ρ b else none) ≠ none := hb
    intro h
    rw [h] at hb
    exact hb rfl
  · have hj : E.J b g := hj
    obtain ⟨j1, j2, j3, j4, j5, j6⟩ := G.j b g hj
    refine ⟨j1, j2, j3, fun hI => ?_, fun b' c hr => j5 b' c (hρ _ _ _ hr), j6⟩
    rcases hI with hI | ⟨b', c, _, _, hr⟩
    · exact j4 hI
    · exact j5 _ _ hr
  · obtain ⟨k, hk, hle, heq⟩ := hs.x.h b k0 hk0
    have hodd : b % 2 = 1 := by
      rcases Nat.mod_two_eq_zero_or_one b with h | h
      · rw [hs.e b h] at hk0; cases hk0
      · exact h
    rw [hs.h] at hk
    have hex : ∃ k', HH (odds σ.h) H b = some k' := by
      have hbase : ∃ k', odds σ.h b = some k' := ⟨bif k.cl then k else { k with es := [] }, by unfold odds; rw [hodd, hk]; rfl⟩
      have : ∀ H' : List (Nat × Blk), ∃ k', HH (odds σ.h) H' b = some k' := by
        intro H'
        induction H' with
        | nil => exact hbase
        | cons p r ih =>
          obtain ⟨c, k2⟩ := p
          simp only [HH]
          cases Nat.beq b c with
          | true => exact ⟨k2, rfl⟩
          | false => exact ih
      exact this H
    obtain ⟨k', hk'⟩ := hex
    obtain ⟨k2, a1, a2, a3, a4, a5⟩ := kept_ok hH hk'
    rw [hk] at a1; obtain rfl := Option.some.inj a1
    refine ⟨k', hk', by rw [a4 hodd]; exact hle, fun e => ?_⟩
    obtain ⟨q1, q2⟩ := heq (by rw [← a4 hodd]; exact e)
    exact ⟨by rw [a2]; exact q1, by simp only [hk', Option.isSome_some, if_true]; exact q2⟩
  · have hodd : b % 2 = 1 := by
      rcases Nat.mod_two_eq_zero_or_one b with h | h
      · rw [hs.e b h] at hk0; cases hk0
      · exact h
    have hk' : HH (odds σ.h) H b = some k' := hk'
    obtain ⟨k, a1, a2, a3, a4, a5⟩ := kept_ok hH hk'
    exact hs.x.j b k0 k hk0 (by rw [hs.h]; exact a1) (by rw [← a4 hodd]; exact e)

theorem run_sound {P : Program} {X : FuncId → List V → List (Nat × List V) → V → List (Nat × List V) → List Blk → Prop} {S : Sys} (hmix : P.follows .mixedOrders = true) (hX : ∀ f args pts res pts' outs, X f args pts res pts' outs → CallOk P S f args pts res pts' outs) {j : Job} (h : Run P X j) : Sound P S j := by
  induction h with
  | nil => exact ⟨.nil _, rfl, fun r hr => by simp at hr⟩
  | skip ho hg hd _ ih =>
    obtain ⟨h1, h2, h3⟩ := ih
    refine ⟨.cons ⟨ho, hg, dstOk_spec hd, fun _ => ⟨rfl, rfl, rfl⟩, (fun h => by cases h), (fun h => by cases h), (fun h => by cases h)⟩ h1, by rw [List.map_cons, h2]; rfl, fun r hr => ?_⟩
    rcases List.mem_cons.1 hr with rfl | hr
    · exact step_skip_ok rfl
    · exact h3 r hr
  | eff ho hg hd he _ ih =>
    obtain ⟨h1, h2, h3⟩ := ih
    refine ⟨.cons ⟨ho, hg, dstOk_spec hd, (fun h => by cases h), fun _ => rfl, fun _ => rfl, fun _ => rfl⟩ h1, by rw [List.map_cons, h2]; rfl, fun r hr => ?_⟩
    rcases List.mem_cons.1 hr with rfl | hr
    · exact step_eff_ok rfl he
    · exact h3 r hr
  | enter ho hg hd hop hf hcb hp hpok _ hnp hout _ ihc ih =>
    obtain ⟨h1, h2, h3⟩ := ih
    refine ⟨.cons ⟨ho, hg, dstOk_spec hd, (fun h => by cases h), fun _ => rfl, fun _ => rfl, fun _ => rfl⟩ h1, by rw [List.map_cons, h2]; rfl, fun r hr => ?_⟩
    rcases List.mem_cons.1 hr with rfl | hr
    · exact step_call_ok ⟨rfl, _, _, _, _, _, _, _, _, _, _, hop, by simp [recDo, valsOf, hop, Op.operands, Call.operands], hf, hcb, hp, hpok, ihc, hnp, hout, rfl, rfl⟩
    · exact h3 r hr
  | eat ho hg hd hop hf hcb hvs hk hes hc he _ ih =>
    obtain ⟨h1, h2, h3⟩ := ih
    refine ⟨.cons ⟨ho, hg, dstOk_spec hd, (fun h => by cases h), fun _ => rfl, fun _ => rfl, fun _ => rfl⟩ h1, by rw [List.map_cons, h2]; rfl, fun r hr => ?_⟩
    rcases List.mem_cons.1 hr with rfl | hr
    · exact step_eat_ok ⟨rfl, _, _, _, _, _, _, _, _, _, _, _, _, _, hop, by simp [recDo, valsOf, hop, Op.operands, Call.operands, hvs], hf, hcb, hk, hes, hc, he, rfl, rfl⟩
    · exact h3 r hr
  | fresh ho hg hd hop hf hcb hvs hvn _ hclo _ ihc ih =>
    obtain ⟨h1, h2, h3⟩ := ih
    refine ⟨.cons ⟨ho, hg, dstOk_spec hd, (fun h => by cases h), fun _ => rfl, fun _ => rfl, fun _ => rfl⟩ h1, by rw [List.map_cons, h2]; rfl, fun r hr => ?_⟩
    rcases List.mem_cons.1 hr with rfl | hr
    · exact step_new_ok ⟨rfl, _, _, _, _, _, _, _, hop, by simp [recDo, valsOf, hop, Op.operands, Call.operands, hvs], hf, hcb, hvn, ihc, hclo, rfl, rfl⟩
    · exact h3 r hr
  | peek ho hg hd hop hf hcb _ hclo hns _ ihc ih =>
    obtain ⟨h1, h2, h3⟩ := ih
    refine ⟨.cons ⟨ho, hg, dstOk_spec hd, (fun h => by cases h), fun _ => rfl, fun _ => rfl, fun _ => rfl⟩ h1, by rw [List.map_cons, h2]; rfl, fun r hr => ?_⟩
    rcases List.mem_cons.1 hr with rfl | hr
    · exact step_peek_ok ⟨rfl, _, _, _, _, _, _, _, hop, by simp [recDo, valsOf, hop, Op.operands, Call.operands], hf, hcb, ihc, hclo, hns, rfl, rfl⟩
    · exact h3 r hr
  | eatn ho hg hd hop hf hcb hvs hk he _ ih =>
    obtain ⟨h1, h2, h3⟩ := ih
    refine ⟨.cons ⟨ho, hg, dstOk_spec hd, (fun h => by cases h), fun _ => rfl, fun _ => rfl, fun _ => rfl⟩ h1, by rw [List.map_cons, h2]; rfl, fun r hr => ?_⟩
    rcases List.mem_cons.1 hr with rfl | hr
    · exact step_eatn_ok ⟨rfl, _, _, _, _, _, _, _, _, _, _, hop, by simp [recDo, valsOf, hop, Op.operands, Call.operands, hvs], hf, hcb, hk, he, rfl, rfl⟩
    · exact h3 r hr
  | cskip => exact ⟨fun C hC E0 a E Q hs hq => wp_skip (hq a E hs), fun body h => by cases h⟩
  | label => exact ⟨fun C hC E0 a E Q hs hq => wp_label (hq a E hs), fun body h => by cases h⟩
  | exit => exact ⟨fun C hC E0 a E Q hs hq => wp_exit (hq a E hs), fun body h => by cases h⟩
  | ret => exact ⟨fun C hC E0 a E Q hs hq => wp_ret (hq a E hs), fun body h => by cases h⟩
  | region _ ho ih =>
    obtain ⟨h1, h2, h3⟩ := ih
    exact ⟨fun C hC E0 a E Q hs hq => region_ok hC hmix h1 h2 h3 ho hs hq, fun body h => by cases h⟩
  | seq _ _ iha ihb =>
    refine ⟨fun C hC E0 a E Q hs hq => wp_seq (iha.1 C hC E0 a E _ hs (fun a' E' hs' => ?_)), fun body h => by cases h⟩
    exact ihb.1 C hC E0 a' E' Q hs' hq
  | seqx _ hx iha =>
    refine ⟨fun C hC E0 a E Q hs hq => wp_seq (iha.1 C hC E0 a E _ hs (fun a' E' hs' => ?_)), fun body h => by cases h⟩
    rename_i x _
    cases x <;> first | exact absurd rfl hx | exact hq a' E' hs'
  | cond hc _ ih =>
    refine ⟨fun C hC E0 a E Q hs hq => ?_, fun body h => by cases h⟩
    have := eval_vr hs
    rename_i c t e x b _
    have hv := eval_vr hs c
    rw [hc] at hv
    exact wp_cond (val_vr hv) (ih.1 C hC E0 a E Q hs hq)
  | block _ hy ih =>
    refine ⟨fun C hC E0 a E Q hs hq => wp_block (ih.1 C hC E0 a E _ hs (fun a' E' hs' => ?_)), fun body h => by cases h⟩
    subst hy
    have := hq a' E' hs'
    rename_i id _ x _
    cases x with
    | normal => exact this
    | ret => exact this
    | exit id' =>
      simp only [Ex.to, Exit.inBlock, Ex.inBlock] at this ⊢
      split
      · rename_i he; rw [if_pos he] at this; exact this
      · rename_i he; rw [if_neg he] at this; exact this
  | loop _ _ ih ihl =>
    rename_i c x _ _
    refine ⟨fun C hC E0 a E Q hs hq => Rounds.wp (Rounds.more (ih.1 C hC E0 a E _ hs (fun a' E' hs' => ihl.2 c rfl C hC E0 a' E' Q hs' hq))), fun body hb C hC E0 a E Q hs hq => ?_⟩
    cases hb
    exact Rounds.more (ih.1 C hC E0 a E _ hs (fun a' E' hs' => ihl.2 c rfl C hC E0 a' E' Q hs' hq))
  | loopx _ hx ih =>
    refine ⟨fun C hC E0 a E Q hs hq => Rounds.wp (Rounds.out hx (ih.1 C hC E0 a E _ hs (fun a' E' hs' => ⟨rfl, hq a' E' hs'⟩))), fun body hb C hC E0 a E Q hs hq => ?_⟩
    cases hb
    exact Rounds.out hx (ih.1 C hC E0 a E _ hs (fun a' E' hs' => ⟨rfl, hq a' E' hs'⟩))
  | weak hs hh _ ih =>
    rename_i σ σ2 _ _ _
    have key : ∀ {C : Cfg} {E0 : Env} {nt : Nat} {a : Act} {E : Env}, Sim C E0 nt σ a E → Sim C E0 nt σ2 a E := fun h =>
      ⟨h.good, h.h.trans hh.symm, fun t => by rcases hs t with h1 | h1 <;> rw [h1]; exact h.s t; exact .any _, h.n, h.d, h.x, h.e⟩
    exact ⟨fun C hC E0 a E Q hs hq => ih.1 C hC E0 a E Q (key hs) hq, fun body hb C hC E0 a E Q hs hq => ih.2 body hb C hC E0 a E Q (key hs) hq⟩
  | canon l H hl hH _ ih =>
    exact ⟨fun C hC E0 a E Q hs hq => ih.1 C hC E0 a (canonE E _ H) Q (canon_ok hs hl hH) hq, fun body hb C hC E0 a E Q hs hq => ih.2 body hb C hC E0 a (canonE E _ H) Q (canon_ok hs hl hH) hq⟩
  | virt t id B ht hv he _ ih =>
    rename_i σ _ _ _
    have key : ∀ {C : Cfg} {E0 : Env} {nt : Nat} {a : Act} {E : Env}, Sim C E0 nt σ a E → Sim C E0 nt ⟨upd σ.s t (.sl id B.ver 0 0), upd σ.h id (some B)⟩ a ⟨E.w, E.I, E.J, upd E.ρ id none, upd E.h id (some B)⟩ := by
      intro C E0 nt a E h
      obtain ⟨G2, X2⟩ := h.good.empty id B (by rw [hv, h.h]) he
      refine ⟨G2, by rw [h.h], fun u => ?_, h.n, h.d, h.x.trans X2, h.e⟩
      simp only [upd]
      by_cases hu : u = t
      · rw [if_pos hu]
        have hv0 := h.s u
        rw [hu, ht] at hv0
        have hsh : ∃ a0, a.tmps.getD u undef = .slice a0 0 0 := by
          rw [hu]
          cases hv0 with
          | clo h => generalize a.tmps.getD t undef = y at h; cases h with | emp a0 => exact ⟨a0, rfl⟩
        obtain ⟨a0, ha0⟩ := hsh
        rw [ha0]
        exact .sl _ _ _ _ _ B ⟨_, _, _, rfl⟩ (by simp [upd]) (Nat.le_refl _) (fun _ => .inl ⟨by simp [upd], rfl, rfl, a0, rfl⟩)
      · rw [if_neg hu]
        exact (h.s u).mono X2
    exact ⟨fun C hC E0 a E Q hs hq => ih.1 C hC E0 a ⟨E.w, E.I, E.J, upd E.ρ id none, upd E.h id (some B)⟩ Q (key hs) hq, fun body hb C hC E0 a E Q hs hq => ih.2 body hb C hC E0 a ⟨E.w, E.I, E.J, upd E.ρ id none, upd E.h id (some B)⟩ Q (key hs) hq⟩
  | call hf hb hn _ hx hr hc he hd ih =>
    intro w I cargs pb hnp hlen G0 hargs
    rename_i f fn body args pts σ x vs vs' o s1 s2 pts' _
    refine calls_of_wp hf hb ?_
    have hs0 : Sim ⟨S, w, I, pb.map (·.1)⟩ ⟨w, I, noJ, ρ0 pb, h0 pts⟩ fn.ntmps { s := s0 args, h := h0 pts } { tmps := cargs ++ Array.replicate (fn.ntmps - cargs.size) undef, defers := [] } ⟨w, I, noJ, ρ0 pb, h0 pts⟩ := by
      refine ⟨G0, rfl, fun t => ?_, by simp; omega, rfl, Ext.refl _, fun b hb => by simp [h0, hb]⟩
      show VR _ (s0 args t) _
      unfold s0
      rw [List.getD_eq_getElem?_getD, Array.getD_eq_getD_getElem?]
      by_cases ht : t < args.length
      · have := hargs t args[t] (List.getElem?_eq_getElem ht)
        rw [Array.getD_eq_getD_getElem?] at this
        rw [List.getElem?_eq_getElem ht, Array.getElem?_append_left (by omega)]
        exact this
      · rw [List.getElem?_eq_none (by omega), Array.getElem?_append_right (by omega)]
        have : (Array.replicate (fn.ntmps - cargs.size) undef)[t - cargs.size]?.getD undef = undef := by
          rw [Array.getElem?_replicate]; split <;> rfl
        rw [this]
        exact .clo (.val _)
    refine ih.1 _ rfl _ _ _ _ hs0 (fun a' E' hs' => ?_)
    have hfin : a'.defers = [] ∧ ∃ v, (results fn a'.tmps).run P E'.w = .ok v E'.w ∧ ∃ y E2, Ending.returned v = .returned y ∧ E2.w = E'.w ∧ Good ⟨S, w, I, pb.map (·.1)⟩ E2 ∧ Ext ⟨w, I, noJ, ρ0 pb, h0 pts⟩ E2 ∧ VR E2 (oneV vs') y ∧ E2.h = h1 pts' (outsOf σ.h o) ∧ (∀ b, b % 2 = 1 → E2.ρ b = ρ0 pb b) := by
      obtain ⟨xs, hrun, hxl, hrel⟩ := res_ok hs' hr
      have hE := hs'.h
      rw [← hE] at hc he
      obtain ⟨⟨tt, ht⟩, c2, c3, c4, c5⟩ := closeR_ids hs'.good hc
      have hoo := c3 (fun b hb => by simp at hb)
      have hnd := c4 List.nodup_nil
      have hX : Ext ⟨w, I, noJ, ρ0 pb, h0 pts⟩ E' := hs'.x
      obtain ⟨G2, X2⟩ := leave_ok hs'.good hX hnp hoo hnd c2 (fun b hb hm => by
        rw [List.all_eq_true] at hd
        have := hd b hb
        simp [hm] at this) he
      have hV := closeR_ok (pb := pb) (pts' := pts') (oo := o) (ss := s1 ++ s2) hs'.good hoo hc ⟨[], by simp⟩ (fun b hb => List.mem_append_left _ hb) hrel
      refine ⟨hs'.d, (if h : xs.toArray.size = 1 then xs.toArray[0] else .tuple xs.toArray), ?_, _, endEnv E' pb pts' o (s1 ++ s2), rfl, rfl, G2, X2, ?_, by rw [← hE]; rfl, fun b hb => ?_⟩
      · unfold results
        rw [Array.mapM_eq_mapM_toList]
        have hr2 := congrArg (fun (r : Result (List Value)) => Result.andThen (Result.andThen r fun l w' => .ok l.toArray w') fun (vs : Array Value) w' => Result.ok (if h : vs.size = 1 then vs[0] else .tuple vs) w') hrun
        refine Eq.trans ?_ hr2
        rw [Sem.run_bind]
        rw [show ∀ (M : Sem (List Value)), (List.toArray <$> M : Sem (Array Value)) = M >>= fun l => pure l.toArray from fun _ => rfl, Sem.run_bind]
        rfl
      · cases hvs : vs' with
        | nil =>
          have : xs = [] := List.eq_nil_of_length_eq_zero (by rw [hxl, ← c5, hvs]; rfl)
          subst this
          exact .tup _ _ rfl (fun j c hj => by simp at hj)
        | cons v1 rest =>
          cases rest with
          | nil =>
            have h1 : xs.length = 1 := by rw [hxl, ← c5, hvs]; rfl
            obtain ⟨x1, rfl⟩ := List.length_eq_one_iff.1 h1
            have := hV 0 v1 (by rw [hvs]; rfl)
            simpa [oneV] using this
          | cons v2 rest =>
            have h1 : ¬ xs.length = 1 := by rw [hxl, ← c5, hvs]; simp
            have e : (if h : xs.toArray.size = 1 then xs.toArray[0] else Value.tuple xs.toArray) = .tuple xs.toArray := by
              rw [dif_neg (by simpa using h1)]
            rw [e]
            refine .tup _ _ (by simp [hxl, ← c5, hvs]) (fun j c hj => ?_)
            have := hV j c (by rw [hvs]; exact hj)
            simpa using this
      · show (if b % 2 = 1 then _ else _) = _
        rw [if_pos hb]
    rcases hx with rfl | rfl
    · exact hfin
    · exact hfin
  | wk hl hL _ ih =>
    intro w I cargs pb hnp hlen G0 hargs
    exact ih w I cargs pb hnp (by rw [hlen, hl]) G0 (fun j v' hj => by
      obtain ⟨v, hv, hLv⟩ := hL j v' hj
      exact hLv.vr (hargs j v hv))
  | known h => exact hX _ _ _ _ _ _ h
end Go.Ai

namespace Go.Ai
open Go Go.RowKit
set_option linter.unusedSimpArgs false
variable {P : Program}

theorem restrict_in {h : Nat → Option Blk} {l : List Nat} {b : Nat} (hb : b ∈ l) : restrict h l b = h b := by
  simp only [restrict]
  rw [if_pos (by simpa using hb)]
theorem live_in {h : Nat → Option Blk} {l : List Nat} {b ver : Nat} (hb : b ∈ l) : live (restrict h l) b ver = live h b ver := by
  unfold live; rw [restrict_in hb]
theorem news_in {site : Nat} {vals : List V} {h : Nat → Option Blk} {j : Nat} (hj : j < 4) : newId site j ∈ reach site vals h := by
  have : j = 0 ∨ j = 1 ∨ j = 2 ∨ j = 3 := by omega
  rcases this with rfl | rfl | rfl | rfl <;> simp [reach, news]
theorem ids_in {site : Nat} {vals : List V} {h : Nat → Option Blk} {v : V} {b : Nat} (hv : v ∈ vals) (hb : b ∈ ref2 v) : b ∈ reach site vals h := by
  unfold reach
  refine List.mem_append_right _ (List.mem_append_left _ ?_)
  exact List.mem_flatMap.2 ⟨v, hv, hb⟩
theorem ref0_2 {v : V} {b : Nat} (h : b ∈ ref0 v) : b ∈ ref2 v := by cases v <;> first | exact h | cases h

theorem next_hr {site : Nat} {vals : List V} {h : Nat → Option Blk} {j : Nat} (hj : j < 4) : nextVer (hrAt site vals h) (newId site j) = nextVer h (newId site j) := by
  unfold nextVer hrAt; rw [restrict_in (news_in hj)]
theorem mk_hr {site : Nat} {vals : List V} {h : Nat → Option Blk} {sz : Nat} {cl : Bool} {es : List (List V)} : mk (hrAt site vals h) (newId site 0) sz cl es = mk h (newId site 0) sz cl es := by
  unfold mk; rw [next_hr (by omega)]
theorem live_hr {site : Nat} {vals : List V} {h : Nat → Option Blk} {v : V} {b ver : Nat} (hv : v ∈ vals) (hb : b ∈ ref0 v) : live (hrAt site vals h) b ver = live h b ver := live_in (ids_in hv (ref0_2 hb))

theorem live_hdp {site : Nat} {l : List V} {h : Nat → Option Blk} {b v0 i off ver : Nat} : live (hrAt site (.ptr b v0 i off :: l) h) b ver = live h b ver := live_hr List.mem_cons_self (by simp [ref0])
theorem live_hds {site : Nat} {l : List V} {h : Nat → Option Blk} {b v0 off len ver : Nat} : live (hrAt site (.sl b v0 off len :: l) h) b ver = live h b ver := live_hr List.mem_cons_self (by simp [ref0])
theorem seen_hr {site sz : Nat} {vals : List V} {h : Nat → Option Blk} {v : V} (hv : v ∈ vals) : seen (hrAt site vals h) sz v = seen h sz v := by
  unfold seen
  split <;> first | rfl | (rw [live_hr hv (by simp [ref0])])

theorem eff_hr {site : Nat} {op : Op} {vals : List V} {h : Nat → Option Blk} : eff P site op vals (hrAt site vals h) = eff P site op vals h := by
  unfold eff
  split
  all_goals first
    | rfl
    | (unfold effAlloc; simp only [next_hr (show 0 < 4 by omega), mk_hr])
    | (unfold effBox; simp only [next_hr (show 0 < 4 by omega), mk_hr])
    | (unfold effBuildSlice; simp only [next_hr (show 0 < 4 by omega), mk_hr])
    | (unfold effMake; simp only [next_hr (show 0 < 4 by omega), mk_hr])
    | skip
  · unfold effLoad
    split <;> first | rfl | simp only [live_hdp, live_hds]
  · unfold effStore
    split <;> first | rfl | simp only [live_hdp, live_hds]
  · split <;> first | rfl | simp only [live_hdp, live_hds]
  · unfold effConv
    split
    · rfl
    · simp only [next_hr (show 0 < 4 by omega), mk_hr]
    · rw [seen_hr (by simp)]
  · unfold effSlice
    split
    · rfl
    · split <;> first | rfl | simp only [live_hdp, live_hds]
  · unfold effFieldAddr
    split
    · split
      · split
        · split <;> first | rfl | simp only [live_hdp, live_hds]
        · rfl
      · rfl
    · rfl
  · unfold effIxAddr
    split
    · split
      · split <;> first | rfl | simp only [live_hdp, live_hds]
      · rfl
    · rfl
  · split
    · split
      · unfold effLen
        split
        · rfl
        · split <;> first | rfl | simp only [live_hdp, live_hds]
        · rfl
      · rfl
    · split <;> rfl
    · rfl
    · rfl
    · split
      · split
        · unfold effAppend
          split
          · rfl
          · split
            · have hs : ∀ sz X x s, srcOf P sz X x (hrAt site [s, x] h) = srcOf P sz X x h := by
                intro sz X x s
                unfold srcOf
                split
                · rw [seen_hr (by simp)]
                · rfl
                · rfl
              rw [hs]
              split
              · split <;> first | rfl | simp only [next_hr (show 0 < 4 by omega), mk_hr]
              · split
                · simp only [next_hr (show 0 < 4 by omega), mk_hr]
                · simp only [live_hdp, live_hds]
                  simp only [next_hr (show 0 < 4 by omega), mk_hr]
                · rfl
            · rfl
        · rfl
      · rfl
    · rfl
/-- The names that a call looks at. -/
theorem close0_hr {l : List Nat} {h : Nat → Option Blk} {c : V} (hc : ∀ b ∈ ref0 c, b ∈ l) : close0 (restrict h l) c = close0 h c ∧ ∀ c' s, close0 h c = some (c', s) → ∀ b ∈ s, b ∈ l := by
  cases c with
  | sl b ver off len =>
    have hb : b ∈ l := hc b (by simp [ref0])
    refine ⟨by simp only [close0]; rw [live_in hb], fun c' s h b' hb' => ?_⟩
    simp only [close0] at h
    split at h
    · split at h
      · obtain ⟨_, rfl⟩ := Prod.mk.inj (Option.some.inj h)
        simp at hb'; subst hb'; exact hb
      · cases h
    · cases h
  | _ =>
    refine ⟨rfl, fun c' s h b' hb' => ?_⟩
    simp only [close0] at h
    first
      | (obtain ⟨_, rfl⟩ := Prod.mk.inj (Option.some.inj h); exact (List.not_mem_nil hb').elim)
      | cases h
theorem closeL_hr {l : List Nat} {h : Nat → Option Blk} : ∀ {cs : List V}, (∀ c ∈ cs, ∀ b ∈ ref0 c, b ∈ l) → closeL (restrict h l) cs = closeL h cs ∧ ∀ cs' s, closeL h cs = some (cs', s) → ∀ b ∈ s, b ∈ l
  | [], _ => ⟨rfl, fun cs' s h b hb => by simp [closeL] at h; obtain ⟨_, rfl⟩ := h; simp at hb⟩
  | c :: cs, hc => by
    obtain ⟨h1, h2⟩ := close0_hr (h := h) (hc c (by simp))
    obtain ⟨h3, h4⟩ := closeL_hr (h := h) (cs := cs) (fun d hd => hc d (by simp [hd]))
    refine ⟨by simp only [closeL, h1, h3], fun cs' s hh b hb => ?_⟩
    simp only [closeL] at hh
    split at hh
    · rename_i c' s1 cs1 s2 e1 e2
      obtain ⟨_, rfl⟩ := Prod.mk.inj (Option.some.inj hh)
      rcases List.mem_append.1 hb with hb | hb
      · exact h2 _ _ e1 b hb
      · exact h4 _ _ e2 b hb
    · cases hh
theorem closeA_hr {l : List Nat} {h : Nat → Option Blk} {v : V} (hv : ∀ b ∈ ref1 v, b ∈ l) : closeA (restrict h l) v = closeA h v ∧ ∀ v' s, closeA h v = some (v', s) → ∀ b ∈ s, b ∈ l := by
  cases v with
  | agg cs =>
    obtain ⟨h1, h2⟩ := closeL_hr (l := l) (h := h) (cs := cs) (fun c hc b hb => hv b (List.mem_flatMap.2 ⟨c, hc, hb⟩))
    refine ⟨by simp only [closeA, h1], fun v' s hh b hb => ?_⟩
    simp only [closeA, Option.map_eq_some_iff] at hh
    obtain ⟨⟨cs', s'⟩, e1, e2⟩ := hh
    obtain ⟨_, rfl⟩ := Prod.mk.inj e2
    exact h2 _ _ e1 b hb
  | any => exact close0_hr (h := h) (c := .any) hv
  | val x => exact close0_hr (h := h) (c := .val x) hv
  | emp => exact close0_hr (h := h) (c := .emp) hv
  | isl sz es => exact close0_hr (h := h) (c := .isl sz es) hv
  | ipt cs => exact close0_hr (h := h) (c := .ipt cs) hv
  | tup vs => exact close0_hr (h := h) (c := .tup vs) hv
  | ptr b ver i off => exact close0_hr (h := h) (c := .ptr b ver i off) hv
  | sl b ver off len => exact close0_hr (h := h) (c := .sl b ver off len) hv
  | nsl b ver sz es => exact close0_hr (h := h) (c := .nsl b ver sz es) hv

theorem prep_hr {l : List Nat} {h : Nat → Option Blk} : ∀ {vs : List V} {n : Nat}, (∀ v ∈ vs, ∀ b ∈ ref1 v, b ∈ l ∧ ∀ k, h b = some k → k.cl = false → ∀ e ∈ k.es, ∀ c ∈ e, ∀ b' ∈ ref0 c, b' ∈ l) →
    prep (restrict h l) vs n = prep h vs n ∧ ∀ p, prep h vs n = some p → (∀ q ∈ p.pts, q.1 ∈ l) ∧ ∀ b ∈ p.snaps, b ∈ l
  | [], n, _ => ⟨rfl, fun p hp => by simp [prep] at hp; subst hp; exact ⟨fun q hq => by simp at hq, fun b hb => by simp at hb⟩⟩
  | v :: vs, n, hv => by
    obtain ⟨i1, i2⟩ := prep_hr (l := l) (h := h) (vs := vs) (n := n + 1) (fun u hu => hv u (by simp [hu]))
    obtain ⟨j1, j2⟩ := prep_hr (l := l) (h := h) (vs := vs) (n := n) (fun u hu => hv u (by simp [hu]))
    by_cases hp : ∃ b ver i off, v = .ptr b ver i off
    · obtain ⟨b, ver, i, off, rfl⟩ := hp
      obtain ⟨hb, hk⟩ := hv (.ptr b ver i off) (by simp) b (by simp [ref1, ref0])
      have hcc : ∀ k e, live h b ver = some k → k.es = [e] → closeC (restrict h l) k.cl e = closeC h k.cl e ∧ ∀ e' s, closeC h k.cl e = some (e', s) → ∀ b ∈ s, b ∈ l := by
        intro k e hl he
        unfold closeC
        cases hcl : k.cl with
        | true => exact ⟨rfl, fun e' s hh b hb => by obtain ⟨_, rfl⟩ := Prod.mk.inj (Option.some.inj hh); simp at hb⟩
        | false => exact closeL_hr (fun c hc b' hb' => hk k (live_some hl).1 hcl e (by rw [he]; simp) c hc b' hb')
      refine ⟨?_, fun p hpp => ?_⟩
      · simp only [prep]
        rw [live_in hb]
        split
        · rename_i k hl
          split
          · rename_i e he
            rw [(hcc k e hl he).1, i1]
          · rfl
        · rfl
      · simp only [prep] at hpp
        split at hpp
        · rename_i k hl
          split at hpp
          · rename_i e he
            split at hpp
            · split at hpp
              · rename_i e' s p' e1 e2
                obtain rfl := Option.some.inj hpp
                obtain ⟨k1, k2⟩ := i2 _ e2
                refine ⟨fun q hq => ?_, fun b' hb' => ?_⟩
                · simp at hq
                  rcases hq with rfl | hq
                  · exact hb
                  · exact k1 q hq
                · rcases List.mem_append.1 hb' with hb' | hb'
                  · exact (hcc k e hl he).2 _ _ e1 b' hb'
                  · exact k2 b' hb'
              · cases hpp
            · cases hpp
          · cases hpp
        · cases hpp
    · obtain ⟨c1, c2⟩ := closeA_hr (l := l) (h := h) (v := v) (fun b hb => (hv v (by simp) b hb).1)
      have heq : ∀ hr, prep hr (v :: vs) n = (match closeA hr v, prep hr vs n with
          | some (v', l), some p => some (⟨v' :: p.args, p.pts, l ++ p.snaps⟩ : Prep)
          | _, _ => none) := by
        intro hr
        cases v <;> first | rfl | exact absurd ⟨_, _, _, _, rfl⟩ hp
      refine ⟨by rw [heq, heq, c1, j1], fun p hpp => ?_⟩
      rw [heq] at hpp
      split at hpp
      · rename_i v' s p' e1 e2
        obtain rfl := Option.some.inj hpp
        obtain ⟨k1, k2⟩ := j2 _ e2
        refine ⟨k1, fun b' hb' => ?_⟩
        rcases List.mem_append.1 hb' with hb' | hb'
        · exact c2 _ _ e1 b' hb'
        · exact k2 b' hb'
      · cases hpp

theorem upsPt_hr {l : List Nat} {h : Nat → Option Blk} {p : Prep} {pts' : List (Nat × List V)} (hp : ∀ q ∈ p.pts, q.1 ∈ l) : upsPt (restrict h l) p pts' = upsPt h p pts' := by
  unfold upsPt
  have key : ∀ L : List ((Nat × Nat × List V) × (Nat × List V)), (∀ q ∈ L, q.1.1 ∈ l) → (L.filterMap fun q => (restrict h l q.1.1).map fun k => (q.1.1, ({ k with es := [q.2.2], cl := true } : Blk))) = L.filterMap fun q => (h q.1.1).map fun k => (q.1.1, ({ k with es := [q.2.2], cl := true } : Blk)) := by
    intro L
    induction L with
    | nil => intro _; rfl
    | cons q L ih => intro hL; rw [List.filterMap_cons, List.filterMap_cons, restrict_in (hL q (by simp)), ih (fun x hx => hL x (by simp [hx]))]
  exact key _ (fun q hq => hp q.1 (List.of_mem_zip (a := q.1) (b := q.2) (by simpa using hq)).1)
theorem upsSn_hr {l : List Nat} {h : Nat → Option Blk} {p : Prep} (hp : ∀ b ∈ p.snaps, b ∈ l) : upsSn (restrict h l) p = upsSn h p := by
  unfold upsSn
  have key : ∀ L : List Nat, (∀ b ∈ L, b ∈ l) → (L.filterMap fun b => (restrict h l b).map fun k => (b, ({ k with wr := false } : Blk))) = L.filterMap fun b => (h b).map fun k => (b, ({ k with wr := false } : Blk)) := by
    intro L
    induction L with
    | nil => intro _; rfl
    | cons q L ih => intro hL; rw [List.filterMap_cons, List.filterMap_cons, restrict_in (hL q (by simp)), ih (fun x hx => hL x (by simp [hx]))]
  exact key _ hp
theorem upsOut_hr {site : Nat} {vals : List V} {h : Nat → Option Blk} : ∀ {outs : List Blk} {j : Nat}, j + outs.length ≤ 4 → upsOut site (hrAt site vals h) outs j = upsOut site h outs j
  | [], _, _ => rfl
  | B :: outs, j, hl => by
    simp only [List.length_cons] at hl
    simp only [upsOut]
    rw [next_hr (by omega), upsOut_hr (by omega)]
theorem rn0_hr {site n : Nat} {vals : List V} {h : Nat → Option Blk} {v : V} (hn : n ≤ 4) (hv : resOk0 n v = true) : rn0 site (hrAt site vals h) v = rn0 site h v := by
  cases v with
  | sl b ver off len =>
    simp only [resOk0, clo1, clo0, Bool.false_or, Bool.and_eq_true, decide_eq_true_eq, beq_iff_eq] at hv
    simp only [rn0]
    rw [next_hr (by omega)]
  | _ => rfl
theorem rn_hr {site n : Nat} {vals : List V} {h : Nat → Option Blk} {v : V} (hn : n ≤ 4) (hv : resOk n v = true) : rn site (hrAt site vals h) v = rn site h v := by
  cases v with
  | tup vs =>
    simp only [resOk, List.all_eq_true] at hv
    simp only [rn]
    congr 1
    exact List.map_congr_left fun v hv' => rn0_hr hn (hv v hv')
  | _ => exact rn0_hr (site := site) (vals := vals) (h := h) hn hv

theorem call_ids {site : Nat} {vf : V} {vs : List V} {h : Nat → Option Blk} : ∀ v ∈ vs, ∀ b ∈ ref1 v, b ∈ reach site (vf :: vs) h ∧ ∀ k, h b = some k → k.cl = false → ∀ e ∈ k.es, ∀ c ∈ e, ∀ b' ∈ ref0 c, b' ∈ reach site (vf :: vs) h := by
  intro v hv b hb
  have hb2 : b ∈ ref2 v := by cases v <;> first | exact hb | simp [ref1, ref0] at hb
  have hin : b ∈ ids1 (vf :: vs) := List.mem_flatMap.2 ⟨v, by simp [hv], hb2⟩
  refine ⟨ids_in (v := v) (by simp [hv]) hb2, fun k hk hcl e he c hc b' hb' => ?_⟩
  unfold reach
  refine List.mem_append_right _ (List.mem_append_right _ ?_)
  unfold ids2
  refine List.mem_flatMap.2 ⟨b, hin, ?_⟩
  rw [hk]
  simp only [hcl]
  exact List.mem_flatMap.2 ⟨e, he, List.mem_flatMap.2 ⟨c, hc, hb'⟩⟩

end Go.Ai

namespace Go.Ai
open Go Go.RowKit
variable {P : Program} {X : FuncId → List V → List (Nat × List V) → V → List (Nat × List V) → List Blk → Prop}

/-- The interpreter runs through the code and comes to Q. -/
def AW (P : Program) (X : FuncId → List V → List (Nat × List V) → V → List (Nat × List V) → List Blk → Prop) (nt : Nat) (c : Code) (σ : St) (Q : Ex → St → Prop) : Prop := ∃ x σ', Run P X (.code nt c σ x σ') ∧ Q x σ'
def AO (P : Program) (X : FuncId → List V → List (Nat × List V) → V → List (Nat × List V) → List Blk → Prop) (nt rid : Nat) (ops : Array Oper) (l : List Nat) (σ : St) (Q : List Rec → St → Prop) : Prop := ∃ recs σ', Run P X (.ops nt rid ops l σ recs σ') ∧ Q recs σ'
/-- A function that is only handed values, and hands back a value. -/
def Fun (P : Program) (X : FuncId → List V → List (Nat × List V) → V → List (Nat × List V) → List Blk → Prop) (f : FuncId) (args : List V) (res : V) : Prop := Run P X (.call f args [] res [] [])

def thenQ (K : St → Prop) (Q : Ex → St → Prop) : Ex → St → Prop
  | .normal, σ => K σ
  | x, σ => Q x σ

theorem aw_seq {nt : Nat} {a b : Code} {σ : St} {Q : Ex → St → Prop} (h : AW P X nt a σ (thenQ (fun σ' => AW P X nt b σ' Q) Q)) : AW P X nt (.seq a b) σ Q := by
  obtain ⟨x, σ1, h1, h2⟩ := h
  cases x with
  | normal => obtain ⟨x, σ2, h3, h4⟩ := h2; exact ⟨x, σ2, .seq h1 h3, h4⟩
  | exit id => exact ⟨_, σ1, .seqx h1 (by simp), h2⟩
  | ret => exact ⟨_, σ1, .seqx h1 (by simp), h2⟩
theorem aw_skip {nt : Nat} {σ : St} {Q : Ex → St → Prop} (h : Q .normal σ) : AW P X nt .skip σ Q := ⟨_, _, .cskip, h⟩
theorem aw_label {nt l : Nat} {σ : St} {Q : Ex → St → Prop} (h : Q .normal σ) : AW P X nt (.label l) σ Q := ⟨_, _, .label, h⟩
theorem aw_exit {nt id : Nat} {σ : St} {Q : Ex → St → Prop} (h : Q (.exit id) σ) : AW P X nt (.exit id) σ Q := ⟨_, _, .exit, h⟩
theorem aw_ret {nt : Nat} {σ : St} {Q : Ex → St → Prop} (h : Q .ret σ) : AW P X nt .ret σ Q := ⟨_, _, .ret, h⟩
theorem aw_cond {nt : Nat} {c : Operand} {t e : Code} {σ : St} {Q : Ex → St → Prop} {b : Bool} (hc : evalO σ.s c = .val (.bool b)) (ht : b = true → AW P X nt t σ Q) (he : b = false → AW P X nt e σ Q) : AW P X nt (.cond c t e) σ Q := by
  cases b with
  | true => obtain ⟨x, σ', h1, h2⟩ := ht rfl; exact ⟨x, σ', .cond hc h1, h2⟩
  | false => obtain ⟨x, σ', h1, h2⟩ := he rfl; exact ⟨x, σ', .cond hc h1, h2⟩
theorem aw_true {nt : Nat} {c : Operand} {t e : Code} {σ : St} {Q : Ex → St → Prop} (hc : evalO σ.s c = .val (.bool true)) (ht : AW P X nt t σ Q) : AW P X nt (.cond c t e) σ Q := aw_cond hc (fun _ => ht) (fun h => by cases h)
theorem aw_false {nt : Nat} {c : Operand} {t e : Code} {σ : St} {Q : Ex → St → Prop} (hc : evalO σ.s c = .val (.bool false)) (he : AW P X nt e σ Q) : AW P X nt (.cond c t e) σ Q := aw_cond hc (fun h => by cases h) (fun _ => he)
theorem aw_block {nt id : Nat} {c : Code} {σ : St} {Q : Ex → St → Prop} (h : AW P X nt c σ (fun x σ' => Q (x.inBlock id) σ')) : AW P X nt (.block id c) σ Q := by
  obtain ⟨x, σ', h1, h2⟩ := h; exact ⟨_, σ', .block h1 rfl, h2⟩
theorem aw_loop {nt : Nat} {c : Code} {σ : St} {Q : Ex → St → Prop} (h : AW P X nt c σ (thenQ (fun σ' => AW P X nt (.loop c) σ' Q) Q)) : AW P X nt (.loop c) σ Q := by
  obtain ⟨x, σ1, h1, h2⟩ := h
  cases x with
  | normal => obtain ⟨x, σ2, h3, h4⟩ := h2; exact ⟨x, σ2, .loop h1 h3, h4⟩
  | exit id => exact ⟨_, σ1, .loopx h1 (by simp), h2⟩
  | ret => exact ⟨_, σ1, .loopx h1 (by simp), h2⟩
theorem aw_region {nt id : Nat} {ops : Array Oper} {draw : Bool} {σ : St} {Q : Ex → St → Prop} (h : AO P X nt id ops (List.range ops.size) σ (fun recs σ' => (draw = true → backB ops = true ∧ orderB ops (ancL ops) recs = true) ∧ Q .normal σ')) : AW P X nt (.region id ops draw) σ Q := by
  obtain ⟨recs, σ', h1, h2, h3⟩ := h
  exact ⟨_, σ', .region h1 h2, h3⟩
theorem aw_mono {nt : Nat} {c : Code} {σ : St} {Q Q' : Ex → St → Prop} (h : AW P X nt c σ Q) (hq : ∀ x σ', Q x σ' → Q' x σ') : AW P X nt c σ Q' := by
  obtain ⟨x, σ', h1, h2⟩ := h; exact ⟨x, σ', h1, hq _ _ h2⟩

def agree : List V → (Nat → V) → Nat → Prop
  | [], _, _ => True
  | v :: l, s, n => (v = .any ∨ v = s n) ∧ agree l s (n + 1)
def agreeH : List (Nat × Blk) → (Nat → Option Blk) → Prop
  | [], _ => True
  | (b, k) :: r, h => h b = some k ∧ agreeH r h

theorem agree_get : ∀ {l : List V} {s : Nat → V} {n t : Nat}, agree l s n → l.getD t .any = s (n + t) ∨ l.getD t .any = .any
  | [], s, n, t, _ => by simp
  | v :: l, s, n, 0, h => by
    rcases h.1 with h1 | h1
    · exact .inr h1
    · exact .inl h1
  | v :: l, s, n, t + 1, h => by
    have := agree_get (t := t) h.2
    rw [show n + (t + 1) = n + 1 + t by omega]
    simpa using this
theorem HH_get : ∀ {H : List (Nat × Blk)} {h : Nat → Option Blk}, agreeH H h → HH h H = h
  | [], h, _ => rfl
  | (b, k) :: r, h, hh => by
    funext x
    simp only [HH]
    cases hx : Nat.beq x b with
    | true => simp only [cond_true]; rw [Nat.eq_of_beq_eq_true hx]; exact hh.1.symm
    | false => simp only [cond_false]; rw [HH_get hh.2]

/-- The state in its plain form. -/
theorem aw_plain {nt : Nat} {c : Code} {σ : St} {Q : Ex → St → Prop} (l : List V) (H : List (Nat × Blk)) (hl : agree l σ.s 0) (hH : agreeH H σ.h) (h : ∀ h0, AW P X nt c ⟨L l, HH h0 H⟩ Q) : AW P X nt c σ Q := by
  obtain ⟨x, σ', h1, h2⟩ := h σ.h
  exact ⟨x, σ', .weak (fun t => by have := agree_get (t := t) hl; rwa [Nat.zero_add] at this) (HH_get hH) h1, h2⟩
def renL (h : Nat → Option Blk) (H : List (Nat × Blk)) : List V → (Nat → V) → Nat → Prop
  | [], _, _ => True
  | v :: l, s, n => Ren h H (s n) v ∧ renL h H l s (n + 1)
def renH (h : Nat → Option Blk) (H : List (Nat × Blk)) : List (Nat × Blk) → Prop
  | [] => True
  | (b, k) :: r => RenB h H b k ∧ renH h H r
theorem renL_get {h : Nat → Option Blk} {H : List (Nat × Blk)} : ∀ {l : List V} {s : Nat → V} {n t : Nat}, renL h H l s n → Ren h H (s (n + t)) (l.getD t .any)
  | [], s, n, t, _ => by simpa using Ren.any _
  | v :: l, s, n, 0, hh => hh.1
  | v :: l, s, n, t + 1, hh => by
    have := renL_get (t := t) hh.2
    rw [show n + (t + 1) = n + 1 + t by omega]
    simpa using this
theorem renH_mem {h : Nat → Option Blk} {H : List (Nat × Blk)} : ∀ {r : List (Nat × Blk)} {b : Nat} {k : Blk}, renH h H r → (b, k) ∈ r → RenB h H b k
  | [], _, _, _, hm => by cases hm
  | (c, k2) :: r, b, k, hh, hm => by
    rcases List.mem_cons.1 hm with hm | hm
    · obtain ⟨rfl, rfl⟩ := Prod.mk.inj hm; exact hh.1
    · exact renH_mem hh.2 hm
/-- A block that names no other, kept under a new number. -/
theorem renB_cl {h : Nat → Option Blk} {H : List (Nat × Blk)} {b : Nat} {k k' : Blk} (hk : h b = some k) (hc : k.cl = true) (hs : k'.sz = k.sz) (hw : k'.wr = k.wr) (hv : (b % 2 == 0 || k'.ver == k.ver) = true) (he : k'.es = k.es) : RenB h H b k' :=
  ⟨k, hk, hs, hw, fun hb => by
    simp only [Bool.or_eq_true, beq_iff_eq] at hv
    rcases hv with h | h
    · omega
    · exact h, .inl ⟨hc, he⟩⟩
/-- The state in its plain form, the names' numbers begun anew. -/
theorem aw_canon {nt : Nat} {c : Code} {σ : St} {Q : Ex → St → Prop} (l : List V) (H : List (Nat × Blk)) (hl : renL σ.h H l σ.s 0) (hH : renH σ.h H H) (h : ∀ h0, AW P X nt c ⟨L l, HH (odds h0) H⟩ Q) : AW P X nt c σ Q := by
  obtain ⟨x, σ', h1, h2⟩ := h σ.h
  exact ⟨x, σ', .canon l H (fun t => by have := renL_get (t := t) hl; rwa [Nat.zero_add] at this) (fun b k' hm => renH_mem hH hm) h1, h2⟩
/-- A loop: what stands at the head of each round. -/
theorem aw_rounds {nt : Nat} {c : Code} {σ : St} {Q : Ex → St → Prop} {T : Type} (I : T → Prop) (l : T → List V) (H : T → List (Nat × Blk)) (μ : T → Nat) (t0 : T) (hI : I t0) (hl : renL σ.h (H t0) (l t0) σ.s 0) (hH : renH σ.h (H t0) (H t0))
    (step : ∀ t h0, I t → AW P X nt c ⟨L (l t), HH (odds h0) (H t)⟩ (thenQ (fun σ' => ∃ t', I t' ∧ μ t' < μ t ∧ renL σ'.h (H t') (l t') σ'.s 0 ∧ renH σ'.h (H t') (H t')) Q)) : AW P X nt (.loop c) σ Q := by
  have key : ∀ n t, μ t = n → I t → ∀ h0, AW P X nt (.loop c) ⟨L (l t), HH (odds h0) (H t)⟩ Q := by
    intro n
    induction n using Nat.strongRecOn with
    | _ n ih =>
      intro t hn hIt h0
      refine aw_loop (aw_mono (step t h0 hIt) (fun x σ' hx => ?_))
      cases x with
      | normal =>
        obtain ⟨t', h1, h2, h3, h4⟩ := hx
        exact aw_canon (l t') (H t') h3 h4 (fun h0 => ih (μ t') (by omega) t' rfl h1 h0)
      | exit id => exact hx
      | ret => exact hx
  exact aw_canon (l t0) (H t0) hl hH (fun h0 => key _ t0 rfl hI h0)
/-- A loop: what stands at the head of each round (nothing renamed). -/
theorem aw_loop_ind {nt : Nat} {c : Code} {σ : St} {Q : Ex → St → Prop} {T : Type} (I : T → Prop) (l : T → List V) (H : T → List (Nat × Blk)) (μ : T → Nat) (t0 : T) (hI : I t0) (hl : agree (l t0) σ.s 0) (hH : agreeH (H t0) σ.h)
    (step : ∀ t h0, I t → AW P X nt c ⟨L (l t), HH h0 (H t)⟩ (thenQ (fun σ' => ∃ t', I t' ∧ μ t' < μ t ∧ agree (l t') σ'.s 0 ∧ agreeH (H t') σ'.h) Q)) : AW P X nt (.loop c) σ Q := by
  have key : ∀ n t, μ t = n → I t → ∀ h0, AW P X nt (.loop c) ⟨L (l t), HH h0 (H t)⟩ Q := by
    intro n
    induction n using Nat.strongRecOn with
    | _ n ih =>
      intro t hn hIt h0
      refine aw_loop (aw_mono (step t h0 hIt) (fun x σ' hx => ?_))
      cases x with
      | normal =>
        obtain ⟨t', h1, h2, h3, h4⟩ := hx
        exact aw_plain (l t') (H t') h3 h4 (fun h0 => ih (μ t') (by omega) t' rfl h1 h0)
      | exit id => exact hx
      | ret => exact hx
  exact aw_plain (l t0) (H t0) hl hH (fun h0 => key _ t0 rfl hI h0)
/-- A list that is nil is a block of none. -/
theorem aw_virt {nt : Nat} {c : Code} {σ : St} {Q : Ex → St → Prop} (t id sz : Nat) (ht : σ.s t = .emp) (h : AW P X nt c ⟨upd σ.s t (.sl id (nextVer σ.h id) 0 0), upd σ.h id (some ⟨nextVer σ.h id, sz, true, true, []⟩)⟩ Q) : AW P X nt c σ Q := by
  obtain ⟨x, σ', h1, h2⟩ := h
  exact ⟨x, σ', .virt t id ⟨nextVer σ.h id, sz, true, true, []⟩ ht rfl rfl h1, h2⟩

/-- The same, as the machine reckons it fast. -/
def put' (s : Nat → V) : Option Tmp → V → Nat → V
  | none, _ => s
  | some d, v => fun t => bif Nat.beq t d then v else s t
def updAll' (h : Nat → Option Blk) : List (Nat × Blk) → Nat → Option Blk
  | [] => h
  | (b, k) :: r => updAll' (fun x => bif Nat.beq x b then some k else h x) r
def St.to' (σ : St) (d : Option Tmp) (v : V) (ups : List (Nat × Blk)) : St := ⟨put' σ.s d v, updAll' σ.h ups⟩
theorem bif_upd {α : Type} (f : Nat → α) (i : Nat) (v : α) : (fun t => bif Nat.beq t i then v else f t) = upd f i v := by
  funext t
  simp only [upd]
  cases h : Nat.beq t i with
  | true => rw [if_pos (Nat.eq_of_beq_eq_true h)]; rfl
  | false => rw [if_neg (Nat.ne_of_beq_eq_false h)]; rfl
theorem put'_eq (s : Nat → V) (d : Option Tmp) (v : V) : put' s d v = put s d v := by
  cases d with
  | none => rfl
  | some d => exact bif_upd s d v
theorem updAll'_eq : ∀ (l : List (Nat × Blk)) (h : Nat → Option Blk), updAll' h l = updAll h l
  | [], _ => rfl
  | (b, k) :: r, h => by simp only [updAll', updAll]; rw [bif_upd]; exact updAll'_eq r _
theorem to'_eq (σ : St) (d : Option Tmp) (v : V) (ups : List (Nat × Blk)) : σ.to' d v ups = σ.to d v ups := by unfold St.to' St.to; rw [put'_eq, updAll'_eq]

theorem ao_nil {nt rid : Nat} {ops : Array Oper} {σ : St} {Q : List Rec → St → Prop} (h : Q [] σ) : AO P X nt rid ops [] σ Q := ⟨_, _, .nil, h⟩
theorem ao_skip {nt rid : Nat} {ops : Array Oper} {i : Nat} {l : List Nat} {σ : St} {Q : List Rec → St → Prop} {o : Oper} (ho : ops[i]? = some o) (hg : guardV ops σ.s o = some false) (hd : dstOk nt o = true)
    (h : AO P X nt rid ops l (σ.to' o.dst (.val undef) []) (fun recs σ' => Q (recSkip i o (siteOf rid i) :: recs) σ')) : AO P X nt rid ops (i :: l) σ Q := by
  rw [to'_eq] at h
  obtain ⟨recs, σ', h1, h2⟩ := h
  exact ⟨_, σ', .skip ho hg hd h1, h2⟩
theorem ao_eff {nt rid : Nat} {ops : Array Oper} {i : Nat} {l : List Nat} {σ : St} {Q : List Rec → St → Prop} {o : Oper} {v : V} {ups : List (Nat × Blk)} (ho : ops[i]? = some o) (hg : guardV ops σ.s o = some true) (hd : dstOk nt o = true)
    (he : eff P (siteOf rid i) o.op (valsOf o σ.s) σ.h = some (v, ups))
    (h : AO P X nt rid ops l (σ.to' o.dst v ups) (fun recs σ' => Q (recDo i o (siteOf rid i) (valsOf o σ.s) σ.h v ups :: recs) σ')) : AO P X nt rid ops (i :: l) σ Q := by
  rw [to'_eq] at h
  obtain ⟨recs, σ', h1, h2⟩ := h
  exact ⟨_, σ', .eff ho hg hd (by rw [eff_hr]; exact he) h1, h2⟩
theorem ao_call {nt rid : Nat} {ops : Array Oper} {i : Nat} {l : List Nat} {σ : St} {Q : List Rec → St → Prop} {o : Oper} {fo : Operand} {args : Array Operand} {ats : Array TypeId} {f : FuncId} {p : Prep} {res : V} {pts' : List (Nat × List V)} {outs : List Blk}
    (ho : ops[i]? = some o) (hg : guardV ops σ.s o = some true) (hd : dstOk nt o = true) (hop : o.op = .call ⟨.value fo, args, ats⟩) (hf : calleeOf (evalO σ.s fo) = some f) (hcb : callable P f = true)
    (hp : prep σ.h (args.toList.map (evalO σ.s)) 0 = some p) (hpok : prepOk (siteOf rid i) p = true) (hcall : Run P X (.call f p.args (ptsOf p) res pts' outs)) (hnp : pts'.length = p.pts.length) (hout : outsOk res outs = true)
    (h : AO P X nt rid ops l (σ.to' o.dst (rn (siteOf rid i) σ.h res) (callUps (siteOf rid i) σ.h p res pts' outs)) (fun recs σ' => Q (recDo i o (siteOf rid i) (valsOf o σ.s) σ.h (rn (siteOf rid i) σ.h res) (callUps (siteOf rid i) σ.h p res pts' outs) :: recs) σ')) :
    AO P X nt rid ops (i :: l) σ Q := by
  rw [to'_eq] at h
  obtain ⟨recs, σ', h1, h2⟩ := h
  have hvals : valsOf o σ.s = evalO σ.s fo :: args.toList.map (evalO σ.s) := by simp [valsOf, hop, Op.operands, Call.operands]
  have hprep := prep_hr (l := reach (siteOf rid i) (valsOf o σ.s) σ.h) (h := σ.h) (vs := args.toList.map (evalO σ.s)) (n := 0) (by rw [hvals]; exact call_ids)
  obtain ⟨k1, k2⟩ := hprep.2 p hp
  have ho4 : outs.length ≤ 4 ∧ resOk outs.length res = true := by
    simp only [outsOk, Bool.and_eq_true, decide_eq_true_eq] at hout
    exact ⟨hout.1.2, hout.2⟩
  have e1 : rn (siteOf rid i) (hrAt (siteOf rid i) (valsOf o σ.s) σ.h) res = rn (siteOf rid i) σ.h res := rn_hr ho4.1 ho4.2
  have e2 : callUps (siteOf rid i) (hrAt (siteOf rid i) (valsOf o σ.s) σ.h) p res pts' outs = callUps (siteOf rid i) σ.h p res pts' outs := by
    unfold callUps
    rw [upsOut_hr (by omega)]
    unfold hrAt
    rw [upsPt_hr k1, upsSn_hr k2]
  refine ⟨_, σ', .enter ho hg hd hop hf hcb (by unfold hrAt; rw [hprep.1]; exact hp) hpok hcall hnp hout (by rw [e1, e2]; exact h1), ?_⟩
  rw [e1, e2]; exact h2

/-- A call that takes over a row of plain values of the call's own. -/
theorem ao_eat {nt rid : Nat} {ops : Array Oper} {i : Nat} {l : List Nat} {σ : St} {Q : List Rec → St → Prop} {o : Oper} {fo : Operand} {args : Array Operand} {ats : Array TypeId} {f : FuncId} {b ver len : Nat} {k : Blk} {es es' : List (List Value)} {rest : List Value} {out : Option Nat} {sz : Nat}
    (ho : ops[i]? = some o) (hg : guardV ops σ.s o = some true) (hd : dstOk nt o = true) (hop : o.op = .call ⟨.value fo, args, ats⟩) (hf : calleeOf (evalO σ.s fo) = some f) (hcb : callable P f = true)
    (hvs : args.toList.map (evalO σ.s) = .sl b ver 0 len :: rest.map V.val) (hk : live σ.h b ver = some k) (hes : k.es = es.map (·.map V.val)) (hc : eatB k len es es' = true) (he : EatOk P f sz len es rest out es') (hsz : k.sz = sz)
    (h : AO P X nt rid ops l (σ.to' o.dst (eatV b ver out) [(b, eatK k es')]) (fun recs σ' => Q (recDo i o (siteOf rid i) (valsOf o σ.s) σ.h (eatV b ver out) [(b, eatK k es')] :: recs) σ')) : AO P X nt rid ops (i :: l) σ Q := by
  rw [to'_eq] at h
  subst hsz
  obtain ⟨recs, σ', h1, h2⟩ := h
  have hvals : valsOf o σ.s = evalO σ.s fo :: args.toList.map (evalO σ.s) := by simp [valsOf, hop, Op.operands, Call.operands]
  have hlv : live (hrAt (siteOf rid i) (valsOf o σ.s) σ.h) b ver = some k := by
    rw [hvals, hvs]
    rw [live_hr (v := .sl b ver 0 len) (by simp) (by simp [ref0])]
    exact hk
  exact ⟨_, σ', .eat ho hg hd hop hf hcb hvs hlv hes hc he h1, h2⟩

/-- A function's body. -/
theorem run_call {f : FuncId} {fn : Func} {body : Code} {args : List V} {pts : List (Nat × List V)} {res : V} {pts' : List (Nat × List V)} {outs : List Blk} (hf : P.funcs[f]? = some fn) (hb : fn.body = some body) (hn : args.length ≤ fn.ntmps)
    (h : AW P X fn.ntmps body ⟨s0 args, h0 pts⟩ (fun x σ => (x = .normal ∨ x = .ret) ∧ ∃ vs vs' o s1 s2, resL P fn σ fn.results.toList = some vs ∧ closeR σ.h vs [] = some (vs', o, s1) ∧ endPts σ.h pts.length 0 = some (pts', s2) ∧
      o.all (fun b => !(s1 ++ s2).contains b) = true ∧ res = oneV vs' ∧ outs = outsOf σ.h o)) : Run P X (.call f args pts res pts' outs) := by
  obtain ⟨x, σ, h1, h2, vs, vs', o, s1, s2, h3, h4, h5, h6, rfl, rfl⟩ := h
  exact .call hf hb hn h1 h2 h3 h4 h5 h6
end Go.Ai

namespace Go.Ai
open Go Go.RowKit
set_option linter.unusedSimpArgs false
variable {P : Program} {h : Nat → Option Blk} {site : Nat}

/-- 'append' onto a block of the call's own. -/
theorem ef_append {s x : Operand} {S X Et : TypeId} {b ver len len' : Nat} {xv : V} {k : Blk} {sz by_ : Nat} {z : List V} {xs es' : List (List V)} {cx : Bool} (hk : live h b ver = some k) (hE : elemT P S = some Et) (hsz : sizeT P Et = some sz) (hby : bytesT P Et = some by_) (hz : zeroCs P Et = some z)
    (hc : (k.sz == sz && k.wr && decide (0 < sz) && decide (0 < by_) && b % 2 == 0 && z.length == sz) = true) (hx : srcOf P sz X xv h = some (xs, cx)) (hlen : len ≤ k.es.length) (hsize : (len + xs.length) * by_ ≤ 2 ^ 47) (hes : k.es.take len ++ xs = es') (hl' : len + xs.length = len') :
    eff P site (.call ⟨.builtin .append, #[s, x], #[S, X]⟩) [.sl b ver 0 len, xv] h = some (.sl (newId site 0) (nextVer h (newId site 0)) 0 len', [(b, goneB k), mk h (newId site 0) sz (k.cl && cx) es']) := by
  simp only [Bool.and_eq_true, beq_iff_eq, decide_eq_true_eq] at hc
  obtain ⟨⟨⟨⟨⟨c1, c2⟩, c3⟩, c4⟩, c5⟩, c6⟩ := hc
  subst hes hl'
  have e : effAppend P site S X (.sl b ver 0 len) xv h = some (.sl (newId site 0) (nextVer h (newId site 0)) 0 (len + xs.length), [(b, goneB k), mk h (newId site 0) sz (k.cl && cx) (k.es.take len ++ xs)]) := by
    simp only [effAppend, hE, hsz, hby, hz, hx, hk]
    rw [if_pos ⟨c1, c2, hlen, c3, c4, hsize, c5, c6⟩]
  rw [← e]; rfl
/-- 'append' onto nothing. -/
theorem ef_append0 {s x : Operand} {S X Et : TypeId} {len' : Nat} {xv : V} {sz by_ : Nat} {z : List V} {xs : List (List V)} {cx : Bool} (hE : elemT P S = some Et) (hsz : sizeT P Et = some sz) (hby : bytesT P Et = some by_) (hz : zeroCs P Et = some z)
    (hc : (decide (0 < sz) && decide (0 < by_) && z.length == sz) = true) (hx : srcOf P sz X xv h = some (xs, cx)) (hsize : xs.length * by_ ≤ 2 ^ 47) (hl' : xs.length = len') :
    eff P site (.call ⟨.builtin .append, #[s, x], #[S, X]⟩) [.emp, xv] h = some (.sl (newId site 0) (nextVer h (newId site 0)) 0 len', [mk h (newId site 0) sz cx xs]) := by
  simp only [Bool.and_eq_true, beq_iff_eq, decide_eq_true_eq] at hc
  obtain ⟨⟨c3, c4⟩, c6⟩ := hc
  subst hl'
  have e : effAppend P site S X .emp xv h = some (.sl (newId site 0) (nextVer h (newId site 0)) 0 xs.length, [mk h (newId site 0) sz cx xs]) := by
    simp only [effAppend, hE, hsz, hby, hz, hx]
    rw [if_pos ⟨c3, c4, hsize, c6⟩]
  rw [← e]; rfl
/-- s[i] of a string. -/
theorem ef_index {T : TypeId} {x ix : Operand} {s : ByteArray} {kk : IntKind} {n : Int} {b : UInt8} (hT : P.underlying T = some .string) (h0 : 0 ≤ n) (hb : s[n.toNat]? = some b) :
    eff P site (.index T x ix) [.val (.string s), .val (.int kk n)] h = some (.val (.int .u8 b.toNat), []) := by
  simp only [eff, effIndex, hT, natOf, h0, if_true, hb, same, Option.map_some]
/-- &l[i] of a list that is read. -/
theorem ef_ix {T Et : TypeId} {x ix : Operand} {sz : Nat} {es : List (List V)} {kk : IntKind} {n : Int} {e : List V} (hE : elemT P T = some Et) (hs : sizeT P Et = some sz) (h0 : 0 ≤ n) (he : es[n.toNat]? = some e) :
    eff P site (.indexAddr T x ix) [.isl sz es, .val (.int kk n)] h = some (.ipt e, []) := by
  simp only [eff, effIxAddr, hE, hs, natOf, h0, if_true, he, same, Option.map_some]
/-- &l[i] of a block of the call's own. -/
theorem ef_ixs {T Et : TypeId} {x ix : Operand} {b ver off len : Nat} {k : Blk} {kk : IntKind} {n : Int} (hk : live h b ver = some k) (hE : elemT P T = some Et) (hs : sizeT P Et = some k.sz) (h0 : 0 ≤ n) (hn : n.toNat < len) (hl : off + len ≤ k.es.length) :
    eff P site (.indexAddr T x ix) [.sl b ver off len, .val (.int kk n)] h = some (.ptr b ver (off + n.toNat) 0, []) := by
  simp only [eff, effIxAddr, hE, hs, natOf, h0, if_true, hk, same]
  rw [if_pos ⟨trivial, hn, hl⟩]; rfl
/-- s[l:h], s[l:], s[:h] of a string. -/
theorem ef_str {T : TypeId} {x : Operand} {lo hi mx : Option Operand} {s : ByteArray} {vs : List V} {l n : Nat} {ho : Option Nat} (hb : bnds lo hi mx vs = some (l, ho, false)) (hT : P.underlying T = some .string) (hn : ho.getD s.size = n) (h1 : l ≤ n) (h2 : n ≤ s.size) :
    eff P site (.slice T x lo hi mx) (.val (.string s) :: vs) h = some (.val (.string (s.extract l n)), []) := by
  simp only [eff, effSlice, hb, hT]
  subst hn
  cases ho with
  | none => simp only [Option.getD_none] at h1 ⊢; rw [if_neg (by simp), if_pos h1]; rfl
  | some m => simp only [Option.getD_some] at h1 h2 ⊢; rw [if_neg (by simp), if_pos ⟨h1, h2⟩]; rfl
/-- l[a:b] of a list that is read. -/
theorem ef_sub {T Et : TypeId} {x : Operand} {lo hi mx : Option Operand} {sz : Nat} {es es' : List (List V)} {vs : List V} {l n : Nat} {ho : Option Nat} (hb : bnds lo hi mx vs = some (l, ho, false)) (hE : elemT P T = some Et) (hs : sizeT P Et = some sz) (hn : ho.getD es.length = n) (h1 : l ≤ n) (h2 : n ≤ es.length)
    (he : (es.drop l).take (n - l) = es') : eff P site (.slice T x lo hi mx) (.isl sz es :: vs) h = some (.isl sz es', []) := by
  subst he hn
  simp only [eff, effSlice, hb, hE, hs, if_true]
  rw [if_neg (by simp), if_pos ⟨h1, h2⟩]; rfl
/-- bounds -/
theorem bn_lo {o : Operand} {kk : IntKind} {n : Int} (h0 : 0 ≤ n) : bnds (some o) none none [.val (.int kk n)] = some (n.toNat, none, false) := by simp [bnds, natOf, h0]
theorem bn_hi {o : Operand} {kk : IntKind} {n : Int} (h0 : 0 ≤ n) : bnds none (some o) none [.val (.int kk n)] = some (0, some n.toNat, false) := by simp [bnds, natOf, h0]
theorem bn_both {o o' : Operand} {kk kk' : IntKind} {n m : Int} (h0 : 0 ≤ n) (h1 : 0 ≤ m) : bnds (some o) (some o') none [.val (.int kk n), .val (.int kk' m)] = some (n.toNat, some m.toNat, false) := by simp [bnds, natOf, h0, h1]
/-- string(b) of bytes -/
theorem ef_bstr {S T Et : TypeId} {x : Operand} {v : V} {es : List (List V)} {cl : Bool} {l : List UInt8} (hv : ∀ u, v ≠ .val u) (hE : elemT P S = some Et) (hT : P.underlying T = some .string) (hU : P.underlying Et = some (.int .u8)) (hs : seen h 1 v = some (es, cl)) (hl : es.mapM cellByte = some l) :
    eff P site (.convert S T x) [v] h = some (.val (.string ⟨l.toArray⟩), []) := by
  have e : effConv P site S T v h = some (.val (.string ⟨l.toArray⟩), []) := by
    unfold effConv
    split
    · exact absurd rfl (hv _)
    · exact absurd rfl (hv _)
    · simp only [hE, hT, hU, hs, hl, Option.map_some]
  rw [← e]; rfl
theorem seen_sl {b ver off len : Nat} {k : Blk} {es' : List (List V)} (hk : live h b ver = some k) (hl : off + len ≤ k.es.length) (he : (k.es.drop off).take len = es') : seen h k.sz (.sl b ver off len) = some (es', k.cl) := by
  simp only [seen, hk]
  rw [if_pos ⟨trivial, hl⟩, he]
def cellsU8 (xs : List Int) : List (List V) := xs.map fun x => [.val (.int .u8 x)]
theorem cells_bytes (xs : List Int) : (cellsU8 xs).mapM cellByte = some (xs.map fun x => UInt8.ofNat x.toNat) := by
  unfold cellsU8
  induction xs with
  | nil => rfl
  | cons x xs ih => simp only [List.map_cons, List.mapM_cons, cellByte]; rw [ih]; rfl
/-- sums, differences, products: what is added up stays as the model writes it -/
theorem ef_quo {x y : Operand} {T yT : TypeId} {k : IntKind} {a b : Int} (hb : b ≠ 0) : eff P site (.binOp .quo T x y yT) [.val (.int k a), .val (.int k b)] h = some (.val (.int k (k.wrap (a.tdiv b))), []) := by
  simp [eff, effBin, toVal, eqGuard, binOp, Op.intDiv, hb, pr, same, ofValue, ofCell, bind, pure, Sem.bind]
theorem ef_rem {x y : Operand} {T yT : TypeId} {k : IntKind} {a b : Int} (hb : b ≠ 0) : eff P site (.binOp .rem T x y yT) [.val (.int k a), .val (.int k b)] h = some (.val (.int k (a.tmod b)), []) := by
  simp [eff, effBin, toVal, eqGuard, binOp, Op.intDiv, hb, pr, same, ofValue, ofCell, bind, pure, Sem.bind]
theorem ef_cat {x y : Operand} {T yT : TypeId} {a b : ByteArray} (hs : a.size + b.size ≤ 9223372036854775807) : eff P site (.binOp .add T x y yT) [.val (.string a), .val (.string b)] h = some (.val (.string (a ++ b)), []) := by
  have : ¬ ((a.size + b.size : Nat) : Int) > IntKind.i64.max := by
    have : IntKind.i64.max = 9223372036854775807 := by rfl
    rw [this]; omega
  simp only [eff, effBin, toVal, eqGuard, binOp, Op.stringOp]
  simp [pr, same, ofValue, ofCell, bind, pure, Sem.bind]
  rw [if_neg (by simpa using this)]
  simp [pr]
end Go.Ai

namespace Go.Ai
open Go Go.RowKit
set_option linter.unusedSimpArgs false
variable {P : Program} {X : FuncId → List V → List (Nat × List V) → V → List (Nat × List V) → List Blk → Prop}

/-- What a function does: of values a value; variables that it is handed, and what it leaves in them; blocks that it hands over. -/
def AC (P : Program) (X : FuncId → List V → List (Nat × List V) → V → List (Nat × List V) → List Blk → Prop) (f : FuncId) (args : List V) (pts : List (Nat × List V)) (res : V) (pts' : List (Nat × List V)) (outs : List Blk) : Prop :=
  callable P f = true ∧ pts'.length = pts.length ∧ outsOk res outs = true ∧ Run P X (.call f args pts res pts' outs)
def AF (P : Program) (X : FuncId → List V → List (Nat × List V) → V → List (Nat × List V) → List Blk → Prop) (f : FuncId) (args : List V) (res : V) : Prop := AC P X f args [] res [] []

theorem rn0_clo {site n : Nat} {h : Nat → Option Blk} {v : V} (hv : resOk0 0 v = true) : rn0 site h v = v := by
  cases v with
  | sl b ver off len => simp [resOk0, clo1, clo0] at hv
  | _ => rfl
theorem rn_clo {site : Nat} {h : Nat → Option Blk} {v : V} (hv : resOk 0 v = true) : rn site h v = v := by
  cases v with
  | tup vs =>
    simp only [resOk, List.all_eq_true] at hv
    simp only [rn]
    congr 1
    have : ∀ l : List V, (∀ x ∈ l, resOk0 0 x = true) → l.map (rn0 site h) = l := by
      intro l
      induction l with
      | nil => intro _; rfl
      | cons x l ih => intro hl; rw [List.map_cons, rn0_clo (n := 0) (hl x (by simp)), ih (fun y hy => hl y (by simp [hy]))]
    exact this vs hv
  | _ => exact rn0_clo (n := 0) (site := site) (h := h) hv

def LvL : List V → List V → Prop
  | [], [] => True
  | v :: l, v' :: l' => Lv v v' ∧ LvL l l'
  | _, _ => False
theorem LvL.len : ∀ {l l' : List V}, LvL l l' → l'.length = l.length
  | [], [], _ => rfl
  | v :: l, v' :: l', h => by simp only [List.length_cons, LvL.len h.2]
  | [], _ :: _, h => h.elim
  | _ :: _, [], h => h.elim
theorem LvL.get : ∀ {l l' : List V} {j : Nat} {v' : V}, LvL l l' → l'[j]? = some v' → ∃ v, l[j]? = some v ∧ Lv v v'
  | [], [], j, v', _, hj => by simp at hj
  | v :: l, v' :: l', 0, u, h, hj => by simp at hj; subst hj; exact ⟨v, rfl, h.1⟩
  | v :: l, v' :: l', j + 1, u, h, hj => by
    obtain ⟨w, h1, h2⟩ := LvL.get (j := j) h.2 (by simpa using hj)
    exact ⟨w, by simpa using h1, h2⟩
  | [], _ :: _, _, _, h, _ => h.elim
  | _ :: _, [], _, _, h, _ => h.elim
theorem lv_agg {cs cs' : List V} (h : LvL cs cs') : Lv (.agg cs) (.agg cs') := .agg cs cs' h.len (fun j c c' h1 h2 => by
  obtain ⟨v, h3, h4⟩ := h.get h2
  rw [h1] at h3
  obtain rfl := Option.some.inj h3
  exact h4)
/-- A contract of arguments, of such as may be read as those. -/
theorem ac_wk {f : FuncId} {args args' : List V} {pts : List (Nat × List V)} {res : V} {pts' : List (Nat × List V)} {outs : List Blk} (hL : LvL args args') (h : AC P X f args' pts res pts' outs) : AC P X f args pts res pts' outs :=
  ⟨h.1, h.2.1, h.2.2.1, .wk hL.len (fun j v' hj => hL.get hj) h.2.2.2⟩
theorem af_wk {f : FuncId} {args args' : List V} {res : V} (hL : LvL args args') (h : AF P X f args' res) : AF P X f args res := ac_wk hL h

/-- A call: values in, a value out. -/
theorem ao_fun {nt rid : Nat} {ops : Array Oper} {i : Nat} {l : List Nat} {σ : St} {Q : List Rec → St → Prop} {o : Oper} {fo : Operand} {args : Array Operand} {ats : Array TypeId} {f : FuncId} {as : List V} {res : V}
    (ho : ops[i]? = some o) (hg : guardV ops σ.s o = some true) (hd : dstOk nt o = true) (hop : o.op = .call ⟨.value fo, args, ats⟩) (hf : calleeOf (evalO σ.s fo) = some f)
    (hp : prep σ.h (args.toList.map (evalO σ.s)) 0 = some ⟨as, [], []⟩) (hc : AF P X f as res)
    (h : AO P X nt rid ops l (σ.to' o.dst res []) (fun recs σ' => Q (recDo i o (siteOf rid i) (valsOf o σ.s) σ.h res [] :: recs) σ')) : AO P X nt rid ops (i :: l) σ Q := by
  obtain ⟨h1, h2, h3, h4⟩ := hc
  have e1 : rn (siteOf rid i) σ.h res = res := rn_clo (by simp only [outsOk, Bool.and_eq_true] at h3; exact h3.2)
  have e2 : callUps (siteOf rid i) σ.h ⟨as, [], []⟩ res [] [] = [] := by
    unfold callUps upsPt upsSn; simp [upsOut]
  refine ao_call ho hg hd hop hf h1 hp rfl h4 rfl h3 ?_
  rw [e1, e2]; exact h
/-- A call that reads blocks of the caller's own, and hands back no list: they stay its own. -/
theorem ao_funs {nt rid : Nat} {ops : Array Oper} {i : Nat} {l : List Nat} {σ : St} {Q : List Rec → St → Prop} {o : Oper} {fo : Operand} {args : Array Operand} {ats : Array TypeId} {f : FuncId} {as : List V} {sn : List Nat} {res : V}
    (ho : ops[i]? = some o) (hg : guardV ops σ.s o = some true) (hd : dstOk nt o = true) (hop : o.op = .call ⟨.value fo, args, ats⟩) (hf : calleeOf (evalO σ.s fo) = some f)
    (hp : prep σ.h (args.toList.map (evalO σ.s)) 0 = some ⟨as, [], sn⟩) (hc : AF P X f as res) (hns : ns2 res = true)
    (h : AO P X nt rid ops l (σ.to' o.dst res []) (fun recs σ' => Q (recDo i o (siteOf rid i) (valsOf o σ.s) σ.h res [] :: recs) σ')) : AO P X nt rid ops (i :: l) σ Q := by
  obtain ⟨h1, h2, h3, h4⟩ := hc
  have e1 : rn (siteOf rid i) σ.h res = res := rn_ns hns
  have e2 : callUps (siteOf rid i) σ.h ⟨as, [], sn⟩ res [] [] = [] := by
    unfold callUps upsPt isSf; simp [upsOut, hns]
  refine ao_call ho hg hd hop hf h1 hp rfl h4 rfl h3 ?_
  rw [e1, e2]; exact h
/-- A method: its receiver's variable is read and written. -/
theorem ao_meth {nt rid : Nat} {ops : Array Oper} {i : Nat} {l : List Nat} {σ : St} {Q : List Rec → St → Prop} {o : Oper} {fo : Operand} {args : Array Operand} {ats : Array TypeId} {f : FuncId} {as : List V} {b sz : Nat} {cs cs' : List V} {res : V} {k : Blk}
    (ho : ops[i]? = some o) (hg : guardV ops σ.s o = some true) (hd : dstOk nt o = true) (hop : o.op = .call ⟨.value fo, args, ats⟩) (hf : calleeOf (evalO σ.s fo) = some f)
    (hp : prep σ.h (args.toList.map (evalO σ.s)) 0 = some ⟨as, [(b, sz, cs)], []⟩) (hn : (news (siteOf rid i)).contains b = false) (hb : σ.h b = some k) (hc : AC P X f as [(sz, cs)] res [(sz, cs')] [])
    (h : AO P X nt rid ops l (σ.to' o.dst res [(b, { k with es := [cs'], cl := true })]) (fun recs σ' => Q (recDo i o (siteOf rid i) (valsOf o σ.s) σ.h res [(b, { k with es := [cs'], cl := true })] :: recs) σ')) : AO P X nt rid ops (i :: l) σ Q := by
  obtain ⟨h1, h2, h3, h4⟩ := hc
  have e1 : rn (siteOf rid i) σ.h res = res := rn_clo (by simp only [outsOk, Bool.and_eq_true] at h3; exact h3.2)
  have e2 : callUps (siteOf rid i) σ.h ⟨as, [(b, sz, cs)], []⟩ res [(sz, cs')] [] = [(b, { k with es := [cs'], cl := true })] := by
    unfold callUps upsPt upsSn; simp [upsOut, hb]
  refine ao_call ho hg hd hop hf h1 hp (by simp only [prepOk, List.all_cons, List.all_nil, hn]; simp) h4 rfl h3 ?_
  rw [e1, e2]; exact h
/-- A call that hands over a block (a slice). -/
theorem ao_out {nt rid : Nat} {ops : Array Oper} {i : Nat} {l : List Nat} {σ : St} {Q : List Rec → St → Prop} {o : Oper} {fo : Operand} {args : Array Operand} {ats : Array TypeId} {f : FuncId} {as : List V} {res : V} {outs : List Blk}
    (ho : ops[i]? = some o) (hg : guardV ops σ.s o = some true) (hd : dstOk nt o = true) (hop : o.op = .call ⟨.value fo, args, ats⟩) (hf : calleeOf (evalO σ.s fo) = some f)
    (hp : prep σ.h (args.toList.map (evalO σ.s)) 0 = some ⟨as, [], []⟩) (hc : AC P X f as [] res [] outs)
    (h : AO P X nt rid ops l (σ.to' o.dst (rn (siteOf rid i) σ.h res) (upsOut (siteOf rid i) σ.h outs 0)) (fun recs σ' => Q (recDo i o (siteOf rid i) (valsOf o σ.s) σ.h (rn (siteOf rid i) σ.h res) (upsOut (siteOf rid i) σ.h outs 0) :: recs) σ')) : AO P X nt rid ops (i :: l) σ Q := by
  obtain ⟨h1, h2, h3, h4⟩ := hc
  have e2 : callUps (siteOf rid i) σ.h ⟨as, [], []⟩ res [] outs = upsOut (siteOf rid i) σ.h outs 0 := by
    unfold callUps upsPt upsSn; simp
  refine ao_call ho hg hd hop hf h1 hp rfl h4 rfl h3 ?_
  rw [e2]; exact h

/-- A function's contract out of its body. -/
theorem ac_mk {f : FuncId} {fn : Func} {body : Code} {args : List V} {pts : List (Nat × List V)} {res : V} {pts' : List (Nat × List V)} {outs : List Blk} (hcb : callable P f = true) (hf : P.funcs[f]? = some fn) (hb : fn.body = some body) (hn : args.length ≤ fn.ntmps) (hnp : pts'.length = pts.length) (ho : outsOk res outs = true)
    (h : AW P X fn.ntmps body ⟨s0 args, h0 pts⟩ (fun x σ => (x = .normal ∨ x = .ret) ∧ ∃ vs vs' o s1 s2, resL P fn σ fn.results.toList = some vs ∧ closeR σ.h vs [] = some (vs', o, s1) ∧ endPts σ.h pts.length 0 = some (pts', s2) ∧
      o.all (fun b => !(s1 ++ s2).contains b) = true ∧ res = oneV vs' ∧ outs = outsOf σ.h o)) : AC P X f args pts res pts' outs := ⟨hcb, hnp, ho, run_call hf hb hn h⟩
theorem lb {a b : Nat} (h : Nat.ble a b = true) : a ≤ b := Nat.le_of_ble_eq_true h
/-- The end of a function of values: what its result is. -/
theorem ret_fun {fn : Func} {σ : St} {vs vs' : List V} {s1 : List Nat} {res : V} (h1 : resL P fn σ fn.results.toList = some vs) (h2 : closeR σ.h vs [] = some (vs', [], s1)) (h3 : res = oneV vs') {x : Ex} (hx : x = .normal ∨ x = .ret) :
    (x = .normal ∨ x = .ret) ∧ ∃ vs vs' o s1 s2, resL P fn σ fn.results.toList = some vs ∧ closeR σ.h vs [] = some (vs', o, s1) ∧ endPts σ.h ([] : List (Nat × List V)).length 0 = some ([], s2) ∧ o.all (fun b => !(s1 ++ s2).contains b) = true ∧ res = oneV vs' ∧ ([] : List Blk) = outsOf σ.h o :=
  ⟨hx, vs, vs', [], s1, [], h1, h2, rfl, rfl, h3, rfl⟩
theorem wr64 (x : Int) : IntKind.i64.wrap x = wrap64 x := by rw [IntKind.wrap_i64]; rfl
theorem w64 {x : Int} (h0 : -9223372036854775808 ≤ x) (h1 : x ≤ 9223372036854775807) : wrap64 x = x := by unfold wrap64; omega
theorem i64_in {x : Int} (h0 : -9223372036854775808 ≤ x) (h1 : x ≤ 9223372036854775807) : IntKind.i64.wrap x = x := by rw [wr64, w64 h0 h1]
/-- What stands behind the first n parts of a row of code. -/
def sk : Nat → Code → Code
  | 0, c => c
  | n + 1, .seq _ b => sk n b
  | _ + 1, c => c
def bodyOf (fn : Func) : Code := fn.body.getD .skip
/-- What a function's code is to come to. -/
def retQ (P : Program) (fn : Func) (n : Nat) (res : V) (pts' : List (Nat × List V)) (outs : List Blk) : Ex → St → Prop := fun x σ => (x = .normal ∨ x = .ret) ∧ ∃ vs vs' o s1 s2, resL P fn σ fn.results.toList = some vs ∧ closeR σ.h vs [] = some (vs', o, s1) ∧ endPts σ.h n 0 = some (pts', s2) ∧
      o.all (fun b => !(s1 ++ s2).contains b) = true ∧ res = oneV vs' ∧ outs = outsOf σ.h o
end Go.Ai

namespace Go.Ai
open Go Go.RowKit
set_option linter.unusedSimpArgs false
variable {P : Program} {X : FuncId → List V → List (Nat × List V) → V → List (Nat × List V) → List Blk → Prop}
abbrev vi (n : Int) : V := .val (.int .i64 n)
abbrev vs (s : ByteArray) : V := .val (.string s)
abbrev vo (b : Bool) : V := .val (.bool b)
def cmpB : BinOp → Bool
  | .eql | .neq | .lss | .leq | .gtr | .geq => true
  | _ => false
def isCmp : Op → Bool
  | .binOp o _ _ _ _ => cmpB o
  | .call ⟨.builtin .min, _, _⟩ => true
  | .call ⟨.builtin .max, _, _⟩ => true
  | _ => false
/-- An operation that is no comparison. -/
theorem ao_e {nt rid : Nat} {ops : Array Oper} {i : Nat} {l : List Nat} {σ : St} {Q : List Rec → St → Prop} {o : Oper} {v : V} {ups : List (Nat × Blk)} (ho : ops[i]? = some o) (hc : isCmp o.op = false) (hg : guardV ops σ.s o = some true) (hd : dstOk nt o = true)
    (he : eff P (siteOf rid i) o.op (valsOf o σ.s) σ.h = some (v, ups))
    (h : AO P X nt rid ops l (σ.to' o.dst v ups) (fun recs σ' => Q (recDo i o (siteOf rid i) (valsOf o σ.s) σ.h v ups :: recs) σ')) : AO P X nt rid ops (i :: l) σ Q := ao_eff ho hg hd he h
/-- A comparison: both ways. -/
theorem ao_dec {nt rid : Nat} {ops : Array Oper} {i : Nat} {l : List Nat} {σ : St} {Q : List Rec → St → Prop} {o : Oper} {p : Prop} {inst : Decidable p} (ho : ops[i]? = some o) (hg : guardV ops σ.s o = some true) (hd : dstOk nt o = true)
    (he : eff P (siteOf rid i) o.op (valsOf o σ.s) σ.h = some (.val (.bool (@decide p inst)), []))
    (ht : p → AO P X nt rid ops l (σ.to' o.dst (.val (.bool true)) []) (fun recs σ' => Q (recDo i o (siteOf rid i) (valsOf o σ.s) σ.h (.val (.bool true)) [] :: recs) σ'))
    (hf : ¬ p → AO P X nt rid ops l (σ.to' o.dst (.val (.bool false)) []) (fun recs σ' => Q (recDo i o (siteOf rid i) (valsOf o σ.s) σ.h (.val (.bool false)) [] :: recs) σ')) : AO P X nt rid ops (i :: l) σ Q := by
  by_cases hp : p
  · rw [decide_eq_true hp] at he; exact ao_eff ho hg hd he (ht hp)
  · rw [decide_eq_false hp] at he; exact ao_eff ho hg hd he (hf hp)
theorem ao_yes {nt rid : Nat} {ops : Array Oper} {i : Nat} {l : List Nat} {σ : St} {Q : List Rec → St → Prop} {o : Oper} {p : Prop} {inst : Decidable p} (ho : ops[i]? = some o) (hg : guardV ops σ.s o = some true) (hd : dstOk nt o = true)
    (he : eff P (siteOf rid i) o.op (valsOf o σ.s) σ.h = some (.val (.bool (@decide p inst)), [])) (hp : p)
    (ht : AO P X nt rid ops l (σ.to' o.dst (.val (.bool true)) []) (fun recs σ' => Q (recDo i o (siteOf rid i) (valsOf o σ.s) σ.h (.val (.bool true)) [] :: recs) σ')) : AO P X nt rid ops (i :: l) σ Q :=
  ao_dec ho hg hd he (fun _ => ht) (fun h => absurd hp h)
theorem ao_no {nt rid : Nat} {ops : Array Oper} {i : Nat} {l : List Nat} {σ : St} {Q : List Rec → St → Prop} {o : Oper} {p : Prop} {inst : Decidable p} (ho : ops[i]? = some o) (hg : guardV ops σ.s o = some true) (hd : dstOk nt o = true)
    (he : eff P (siteOf rid i) o.op (valsOf o σ.s) σ.h = some (.val (.bool (@decide p inst)), [])) (hp : ¬ p)
    (hf : AO P X nt rid ops l (σ.to' o.dst (.val (.bool false)) []) (fun recs σ' => Q (recDo i o (siteOf rid i) (valsOf o σ.s) σ.h (.val (.bool false)) [] :: recs) σ')) : AO P X nt rid ops (i :: l) σ Q :=
  ao_dec ho hg hd he (fun h => absurd h hp) (fun _ => hf)
theorem ao_ndec {nt rid : Nat} {ops : Array Oper} {i : Nat} {l : List Nat} {σ : St} {Q : List Rec → St → Prop} {o : Oper} {p : Prop} {inst : Decidable p} (ho : ops[i]? = some o) (hg : guardV ops σ.s o = some true) (hd : dstOk nt o = true)
    (he : eff P (siteOf rid i) o.op (valsOf o σ.s) σ.h = some (.val (.bool (!@decide p inst)), []))
    (ht : p → AO P X nt rid ops l (σ.to' o.dst (.val (.bool false)) []) (fun recs σ' => Q (recDo i o (siteOf rid i) (valsOf o σ.s) σ.h (.val (.bool false)) [] :: recs) σ'))
    (hf : ¬ p → AO P X nt rid ops l (σ.to' o.dst (.val (.bool true)) []) (fun recs σ' => Q (recDo i o (siteOf rid i) (valsOf o σ.s) σ.h (.val (.bool true)) [] :: recs) σ')) : AO P X nt rid ops (i :: l) σ Q := by
  by_cases hp : p
  · rw [decide_eq_true hp] at he; exact ao_eff ho hg hd he (ht hp)
  · rw [decide_eq_false hp] at he; exact ao_eff ho hg hd he (hf hp)
theorem str_beq (a b : ByteArray) : (a.toList == b.toList) = decide (a = b) := by
  by_cases h : a = b
  · subst h; simp
  · rw [decide_eq_false h]
    rw [beq_eq_false_iff_ne]
    intro h2
    rw [ByteArray.toList_eq, ByteArray.toList_eq] at h2
    exact h (ByteArray.ext (Array.ext' h2))
theorem ao_str {nt rid : Nat} {ops : Array Oper} {i : Nat} {l : List Nat} {σ : St} {Q : List Rec → St → Prop} {o : Oper} {a b : ByteArray} (ho : ops[i]? = some o) (hg : guardV ops σ.s o = some true) (hd : dstOk nt o = true)
    (he : eff P (siteOf rid i) o.op (valsOf o σ.s) σ.h = some (.val (.bool (a.toList == b.toList)), []))
    (ht : a = b → AO P X nt rid ops l (σ.to' o.dst (.val (.bool true)) []) (fun recs σ' => Q (recDo i o (siteOf rid i) (valsOf o σ.s) σ.h (.val (.bool true)) [] :: recs) σ'))
    (hf : a ≠ b → AO P X nt rid ops l (σ.to' o.dst (.val (.bool false)) []) (fun recs σ' => Q (recDo i o (siteOf rid i) (valsOf o σ.s) σ.h (.val (.bool false)) [] :: recs) σ')) : AO P X nt rid ops (i :: l) σ Q := by
  rw [str_beq] at he; exact ao_dec ho hg hd he ht hf
theorem ao_nstr {nt rid : Nat} {ops : Array Oper} {i : Nat} {l : List Nat} {σ : St} {Q : List Rec → St → Prop} {o : Oper} {a b : ByteArray} (ho : ops[i]? = some o) (hg : guardV ops σ.s o = some true) (hd : dstOk nt o = true)
    (he : eff P (siteOf rid i) o.op (valsOf o σ.s) σ.h = some (.val (.bool (!(a.toList == b.toList))), []))
    (ht : a = b → AO P X nt rid ops l (σ.to' o.dst (.val (.bool false)) []) (fun recs σ' => Q (recDo i o (siteOf rid i) (valsOf o σ.s) σ.h (.val (.bool false)) [] :: recs) σ'))
    (hf : a ≠ b → AO P X nt rid ops l (σ.to' o.dst (.val (.bool true)) []) (fun recs σ' => Q (recDo i o (siteOf rid i) (valsOf o σ.s) σ.h (.val (.bool true)) [] :: recs) σ')) : AO P X nt rid ops (i :: l) σ Q := by
  rw [str_beq] at he; exact ao_ndec ho hg hd he ht hf
theorem ao_bool {nt rid : Nat} {ops : Array Oper} {i : Nat} {l : List Nat} {σ : St} {Q : List Rec → St → Prop} {o : Oper} {b : Bool} (ho : ops[i]? = some o) (hg : guardV ops σ.s o = some true) (hd : dstOk nt o = true)
    (he : eff P (siteOf rid i) o.op (valsOf o σ.s) σ.h = some (.val (.bool b), []))
    (ht : b = true → AO P X nt rid ops l (σ.to' o.dst (.val (.bool true)) []) (fun recs σ' => Q (recDo i o (siteOf rid i) (valsOf o σ.s) σ.h (.val (.bool true)) [] :: recs) σ'))
    (hf : b = false → AO P X nt rid ops l (σ.to' o.dst (.val (.bool false)) []) (fun recs σ' => Q (recDo i o (siteOf rid i) (valsOf o σ.s) σ.h (.val (.bool false)) [] :: recs) σ')) : AO P X nt rid ops (i :: l) σ Q := by
  cases b with
  | true => exact ao_eff ho hg hd he (ht rfl)
  | false => exact ao_eff ho hg hd he (hf rfl)
/-- An operation's value said otherwise. -/
theorem ao_as {nt rid : Nat} {ops : Array Oper} {i : Nat} {l : List Nat} {σ : St} {Q : List Rec → St → Prop} {o : Oper} {v : V} (v' : V) {ups : List (Nat × Blk)} (ho : ops[i]? = some o) (hg : guardV ops σ.s o = some true) (hd : dstOk nt o = true)
    (he : eff P (siteOf rid i) o.op (valsOf o σ.s) σ.h = some (v, ups)) (hv : v = v')
    (h : AO P X nt rid ops l (σ.to' o.dst v' ups) (fun recs σ' => Q (recDo i o (siteOf rid i) (valsOf o σ.s) σ.h v' ups :: recs) σ')) : AO P X nt rid ops (i :: l) σ Q := by subst hv; exact ao_eff ho hg hd he h
/-- A whole number's value said otherwise. -/
theorem ao_is {nt rid : Nat} {ops : Array Oper} {i : Nat} {l : List Nat} {σ : St} {Q : List Rec → St → Prop} {o : Oper} {k : IntKind} {n : Int} (n' : Int) (ho : ops[i]? = some o) (hg : guardV ops σ.s o = some true) (hd : dstOk nt o = true)
    (he : eff P (siteOf rid i) o.op (valsOf o σ.s) σ.h = some (.val (.int k n), [])) (hv : n = n')
    (h : AO P X nt rid ops l (σ.to' o.dst (.val (.int k n')) []) (fun recs σ' => Q (recDo i o (siteOf rid i) (valsOf o σ.s) σ.h (.val (.int k n')) [] :: recs) σ')) : AO P X nt rid ops (i :: l) σ Q := by subst hv; exact ao_eff ho hg hd he h
/-- 'append' of one element onto a block of the call's own. -/
theorem ef_push {h : Nat → Option Blk} {site : Nat} {α : Type} (enc : α → List V) (l : List α) (a : α) {s x : Operand} {S X Et : TypeId} {b ver len : Nat} {xv : V} {k : Blk} {sz : Nat} {z : List V} {cx : Bool} (by_ : Nat) (hk : live h b ver = some k) (hE : elemT P S = some Et) (hsz : sizeT P Et = some sz) (hby : bytesT P Et = some by_) (hz : zeroCs P Et = some z)
    (hc : (k.sz == sz && k.wr && decide (0 < sz) && decide (0 < by_) && b % 2 == 0 && z.length == sz) = true) (hx : srcOf P sz X xv h = some ([enc a], cx)) (hes : k.es = l.map enc) (hl : len = l.length) (hsize : (l.length + 1) * by_ ≤ 2 ^ 47) :
    eff P site (.call ⟨.builtin .append, #[s, x], #[S, X]⟩) [.sl b ver 0 len, xv] h = some (.sl (newId site 0) (nextVer h (newId site 0)) 0 (l ++ [a]).length, [(b, goneB k), mk h (newId site 0) sz (k.cl && cx) ((l ++ [a]).map enc)]) := by
  subst hl
  exact ef_append (xs := [enc a]) hk hE hsz hby hz hc hx (Nat.le_of_eq (by rw [hes, List.length_map])) (by simpa using hsize) (by rw [hes, List.map_append]; congr 1; rw [List.take_of_length_le (by simp)]) (by simp)
theorem ef_shl {P : Program} {h : Nat → Option Blk} {site : Nat} {x y : Operand} {T yT : TypeId} {k yk : IntKind} {a b : Int} (hb : 0 ≤ b) : eff P site (.binOp .shl T x y yT) [.val (.int k a), .val (.int yk b)] h = some (.val (.int k (k.wrap (a * 2 ^ min b.toNat k.bits))), []) := by
  simp only [eff, effBin, toVal, eqGuard, binOp, Op.shift]
  rw [if_neg (show ¬ b < 0 by omega)]
  simp [pr, same, ofValue, ofCell, bind, pure, Sem.bind]
/-- A call that says yes or no: both ways. -/
theorem ao_fundec {nt rid : Nat} {ops : Array Oper} {i : Nat} {l : List Nat} {σ : St} {Q : List Rec → St → Prop} {o : Oper} {fo : Operand} {args : Array Operand} {ats : Array TypeId} {f : FuncId} {as : List V} {sn : List Nat} {p : Prop} {inst : Decidable p}
    (ho : ops[i]? = some o) (hg : guardV ops σ.s o = some true) (hd : dstOk nt o = true) (hop : o.op = .call ⟨.value fo, args, ats⟩) (hf : calleeOf (evalO σ.s fo) = some f)
    (hp : prep σ.h (args.toList.map (evalO σ.s)) 0 = some ⟨as, [], sn⟩) (hc : AF P X f as (.val (.bool (@decide p inst))))
    (ht : p → AO P X nt rid ops l (σ.to' o.dst (.val (.bool true)) []) (fun recs σ' => Q (recDo i o (siteOf rid i) (valsOf o σ.s) σ.h (.val (.bool true)) [] :: recs) σ'))
    (hn : ¬ p → AO P X nt rid ops l (σ.to' o.dst (.val (.bool false)) []) (fun recs σ' => Q (recDo i o (siteOf rid i) (valsOf o σ.s) σ.h (.val (.bool false)) [] :: recs) σ')) : AO P X nt rid ops (i :: l) σ Q := by
  by_cases h : p
  · rw [decide_eq_true h] at hc; exact ao_funs ho hg hd hop hf hp hc rfl (ht h)
  · rw [decide_eq_false h] at hc; exact ao_funs ho hg hd hop hf hp hc rfl (hn h)
theorem nb_lo {o : Operand} {kk : IntKind} {n : Int} {l : Nat} (h : n = (l : Int)) : bnds (some o) none none [.val (.int kk n)] = some (l, none, false) := by subst h; exact bn_lo (by omega)
theorem nb_hi {o : Operand} {kk : IntKind} {n : Int} {l : Nat} (h : n = (l : Int)) : bnds none (some o) none [.val (.int kk n)] = some (0, some l, false) := by subst h; exact bn_hi (by omega)
theorem nb_both {o o' : Operand} {kk kk' : IntKind} {n m : Int} {l k : Nat} (h : n = (l : Int)) (h' : m = (k : Int)) : bnds (some o) (some o') none [.val (.int kk n), .val (.int kk' m)] = some (l, some k, false) := by subst h h'; exact bn_both (by omega) (by omega)
/-- A call that says yes or no. -/
theorem ao_funb {nt rid : Nat} {ops : Array Oper} {i : Nat} {l : List Nat} {σ : St} {Q : List Rec → St → Prop} {o : Oper} {fo : Operand} {args : Array Operand} {ats : Array TypeId} {f : FuncId} {as : List V} {sn : List Nat} {b : Bool}
    (ho : ops[i]? = some o) (hg : guardV ops σ.s o = some true) (hd : dstOk nt o = true) (hop : o.op = .call ⟨.value fo, args, ats⟩) (hf : calleeOf (evalO σ.s fo) = some f)
    (hp : prep σ.h (args.toList.map (evalO σ.s)) 0 = some ⟨as, [], sn⟩) (hc : AF P X f as (.val (.bool b)))
    (ht : b = true → AO P X nt rid ops l (σ.to' o.dst (.val (.bool true)) []) (fun recs σ' => Q (recDo i o (siteOf rid i) (valsOf o σ.s) σ.h (.val (.bool true)) [] :: recs) σ'))
    (hn : b = false → AO P X nt rid ops l (σ.to' o.dst (.val (.bool false)) []) (fun recs σ' => Q (recDo i o (siteOf rid i) (valsOf o σ.s) σ.h (.val (.bool false)) [] :: recs) σ')) : AO P X nt rid ops (i :: l) σ Q := by
  cases b with
  | true => exact ao_funs ho hg hd hop hf hp hc rfl (ht rfl)
  | false => exact ao_funs ho hg hd hop hf hp hc rfl (hn rfl)
theorem ren_eq {h : Nat → Option Blk} {H : List (Nat × Blk)} {v v' : V} (e : v = v') (hc : clo1 v' = true) : Ren h H v v' := by subst e; exact .same _ hc
theorem wsucc {i : Nat} (h : i < 4611686018427387904) : IntKind.i64.wrap ((i : Int) + 1) = ((i + 1 : Nat) : Int) := by rw [wr64, w64 (by omega) (by omega)]; omega
theorem rsucc {h : Nat → Option Blk} {H : List (Nat × Blk)} (i : Nat) (hi : i < 4611686018427387904) : Ren h H (vi (IntKind.i64.wrap ((i : Int) + 1))) (vi ((i + 1 : Nat) : Int)) := ren_eq (congrArg vi (wsucc hi)) rfl
def u8 (x : Int) : List V := [.val (.int .u8 x)]
end Go.Ai
