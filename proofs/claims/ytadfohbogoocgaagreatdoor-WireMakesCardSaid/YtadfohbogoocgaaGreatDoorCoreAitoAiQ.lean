/- An interpreter of the program's code over values without addresses: slices that are read are lists, what is written lies in blocks with names of their own. -/
import Derived.Orders
import Derived.Below
import Derived.Deep.AppendSrc
import Derived.Laws.Cover3
import Derived.Great.BuildSlice
import Derived.Laws.BytesString
import Derived.Laws.IdiomStrings
set_option linter.unusedVariables false
set_option linter.unusedSimpArgs false
namespace Go.Ai
open Go Go.RowKit

/-- What a slot or a cell holds, as the interpreter sees it. -/
inductive V where
  | any
  | val (v : Value)
  | emp
  | isl (sz : Nat) (es : List (List V))
  | ipt (cs : List V)
  | agg (cs : List V)
  | tup (vs : List V)
  | ptr (b ver i off : Nat)
  | sl (b ver off len : Nat)
  | nsl (b ver sz : Nat) (es : List (List V))
  deriving Inhabited

/-- A block of memory of the call's own (or one that was handed in by pointer). -/
structure Blk where
  ver : Nat
  sz : Nat
  wr : Bool
  cl : Bool
  es : List (List V)

structure St where
  s : Nat → V
  h : Nat → Option Blk

def upd {α : Type} (f : Nat → α) (i : Nat) (v : α) : Nat → α := fun j => if j = i then v else f j
def updAll (h : Nat → Option Blk) : List (Nat × Blk) → Nat → Option Blk
  | [] => h
  | (b, k) :: r => updAll (upd h b (some k)) r

def put (s : Nat → V) : Option Tmp → V → Nat → V
  | none, _ => s
  | some d, v => upd s d v

def ofCell : Value → V
  | .slice none 0 0 => .emp
  | v => .val v
def ofValue : Value → V
  | .agg cs => .agg (cs.toList.map ofCell)
  | v => ofCell v

def evalO (s : Nat → V) : Operand → V
  | .tmp t => s t
  | .const v => ofValue v
  | .global g => .val (.pointer (some ⟨g, 0, none⟩))
  | .func f => .val (.func (.func f) #[] #[])

/-- A cell's value as Go's, if it hangs on no memory. -/
def cellVal : V → Option Value
  | .val v => some v
  | _ => none
def toVal : V → Option Value
  | .val v => some v
  | .agg cs => (cs.mapM cellVal).map fun l => .agg l.toArray
  | _ => none

/-- A run that asks nothing of the world. -/
def pr {α : Type} (P : Program) : Sem α → Option α
  | .pure a => some a
  | .program k => pr P (k P)
  | .mark _ k => pr P k
  | .choose q k => if q.forced then pr P (k 0) else none
  | _ => none

theorem pr_run {α : Type} {P : Program} : ∀ {s : Sem α} {a : α}, pr P s = some a → ∀ w, s.run P w = .ok a w := by
  intro s
  induction s with
  | pure a => intro b h w; simp [pr] at h; subst h; rfl
  | program k ih => intro b h w; exact ih P h w
  | mark m k ih => intro b h w; exact ih h w
  | choose q k ih =>
    intro b h w
    simp only [pr] at h
    split at h
    · rename_i hq
      simp only [Sem.run, hq, if_true]
      exact ih 0 h w
    · simp at h
  | _ => intro b h; simp [pr] at h

/-- May the cell lie in memory? (no struct in one cell) -/
def cellOk : V → Bool
  | .val (.agg _) | .val (.tuple _) | .any | .agg _ | .tup _ => false
  | _ => true
/-- Does it name no block? (what stands in a list that is read never does) -/
def clo0 : V → Bool
  | .val _ | .emp | .isl .. => true
  | _ => false
def vcells : V → List V
  | .agg cs => cs
  | v => [v]

/-- what a row of Go's cells reads as -/
def ofCells (cs : List Value) : Option (List V) := if (cs.map ofCell).all cellOk then some (cs.map ofCell) else none

def ref0 : V → List Nat
  | .ptr b _ _ _ => [b]
  | .sl b _ _ _ => [b]
  | .nsl b _ _ _ => [b]
  | _ => []
def ref1 : V → List Nat
  | .agg cs => cs.flatMap ref0
  | v => ref0 v
def ref2 : V → List Nat
  | .tup vs => vs.flatMap ref1
  | v => ref1 v
def ids1 (vals : List V) : List Nat := vals.flatMap ref2
def ids2 (h : Nat → Option Blk) (l : List Nat) : List Nat :=
  l.flatMap fun b => match h b with
    | some k => if k.cl then [] else k.es.flatMap fun e => e.flatMap ref0
    | none => []

/-- The name of the j-th block that the operation makes. -/
def newId (site j : Nat) : Nat := 2 * (site * 4 + j)
def news (site : Nat) : List Nat := [newId site 0, newId site 1, newId site 2, newId site 3]
/-- All blocks that an operation may look at. -/
def reach (site : Nat) (vals : List V) (h : Nat → Option Blk) : List Nat := news site ++ (ids1 vals ++ ids2 h (ids1 vals))
def restrict (h : Nat → Option Blk) (l : List Nat) : Nat → Option Blk := fun b => if l.contains b then h b else none

def live (h : Nat → Option Blk) (b ver : Nat) : Option Blk :=
  match h b with
  | some k => if k.ver = ver then some k else none
  | none => none

def nextVer (h : Nat → Option Blk) (b : Nat) : Nat :=
  match h b with
  | some k => k.ver + 1
  | none => 0

def isAggD : TypeDesc → Bool
  | .struct _ | .array _ _ => true
  | _ => false
def sizeT (P : Program) (T : TypeId) : Option Nat := (P.info? T).map (·.size)
def bytesT (P : Program) (T : TypeId) : Option Nat := (P.info? T).map (·.bytes)
def zeroT (P : Program) (T : TypeId) : Option Value := (P.info? T).bind (·.zero)
def zeroCs (P : Program) (T : TypeId) : Option (List V) := (zeroT P T).bind fun v => ofCells v.cells.toList
def elemT (P : Program) (T : TypeId) : Option TypeId :=
  match P.underlying T with
  | some (.slice e) => some e
  | _ => none
def fieldsT (P : Program) (T : TypeId) : Option (Array Field) :=
  match P.underlying T with
  | some (.struct fs) => some fs
  | _ => none

def natOf : V → Option Nat
  | .val (.int _ n) => if 0 ≤ n then some n.toNat else none
  | _ => none

/-- a part of cells that lie side by side -/
def partV (P : Program) (T : TypeId) (cs : List V) : Option V :=
  match P.underlying T, sizeT P T with
  | some d, some n => if isAggD d then (if n ≤ cs.length then some (.agg (cs.take n)) else none) else cs.head?
  | _, _ => none

/-- write cells into cells from 'off' on -/
def splice (cs : List V) (off : Nat) (xs : List V) : List V := cs.take off ++ (xs ++ cs.drop (off + xs.length))

def fillV (place : Nat → Option (Nat × Nat)) (cells : List V) : List (Nat × V) → Option (List V)
  | [] => some cells
  | (i, v) :: rest =>
    match place i with
    | none => none
    | some (off, size) =>
      if (vcells v).length = size ∧ off + size ≤ cells.length ∧ (vcells v).all cellOk then fillV place (splice cells off (vcells v)) rest else none

def placesL (P : Program) (T : TypeId) : Option (List (Nat × Nat)) :=
  match fieldsT P T with
  | some fs => fs.toList.mapM fun f => (P.info? f.type).map fun i => (f.offset, i.size)
  | none => none

def chunk (sz : Nat) : Nat → List V → List (List V)
  | 0, _ => []
  | n + 1, l => l.take sz :: chunk sz n (l.drop sz)

/-- the elements that a slice shows -/
def seen (hr : Nat → Option Blk) (sz : Nat) : V → Option (List (List V) × Bool)
  | .emp => some ([], true)
  | .isl sz' es => if sz' = sz then some (es, true) else none
  | .sl b ver off len =>
    match live hr b ver with
    | some k => if k.sz = sz ∧ off + len ≤ k.es.length then some ((k.es.drop off).take len, k.cl) else none
    | none => none
  | _ => none

def byteCells (s : ByteArray) : List (List V) := s.data.toList.map fun b => [.val (.int .u8 b.toNat)]
def cellByte : List V → Option UInt8
  | [.val (.int .u8 n)] => some (UInt8.ofNat n.toNat)
  | _ => none
def cellRune : List V → Option Int
  | [.val (.int .i32 n)] => some n
  | _ => none

/-- new block -/
def mk (hr : Nat → Option Blk) (id sz : Nat) (cl : Bool) (es : List (List V)) : Nat × Blk := (id, { ver := nextVer hr id, sz, wr := true, cl, es })
def goneB (k : Blk) : Blk := { k with ver := k.ver + 1, es := [], cl := true, wr := true }


def effAlloc (P : Program) (site : Nat) (T : TypeId) (hr : Nat → Option Blk) : Option (V × List (Nat × Blk)) :=
  match sizeT P T, zeroCs P T with
  | some n, some cs => if cs.length = n then some (.ptr (newId site 0) (nextVer hr (newId site 0)) 0 0, [mk hr (newId site 0) n true [cs]]) else none
  | _, _ => none
def effBox (P : Program) (site : Nat) (T : TypeId) (v : V) (hr : Nat → Option Blk) : Option (V × List (Nat × Blk)) :=
  match sizeT P T with
  | some n => if (vcells v).length = n ∧ (vcells v).all cellOk then some (.ptr (newId site 0) (nextVer hr (newId site 0)) 0 0, [mk hr (newId site 0) n ((vcells v).all clo0) [vcells v]]) else none
  | none => none
def effBuild (P : Program) (T : TypeId) (ps : Array (Nat × Operand)) (vs : List V) : Option (V × List (Nat × Blk)) :=
  match zeroCs P T, placesL P T with
  | some z, some pl => (fillV (fun i => pl.toArray[i]?) z ((ps.toList.map (·.1)).zip vs)).map fun cs => (.agg cs, [])
  | _, _ => none
def effBuildSlice (P : Program) (site : Nat) (T : TypeId) (len : Nat) (ps : Array (Nat × Operand)) (vs : List V) (hr : Nat → Option Blk) : Option (V × List (Nat × Blk)) :=
  match elemT P T with
  | some E =>
    match sizeT P E, zeroCs P E with
    | some n, some z =>
      if z.length = n ∧ len = 0 ∧ ps.toList = [] then some (.sl (newId site 0) (nextVer hr (newId site 0)) 0 0, [mk hr (newId site 0) n true []])
      else if z.length = n ∧ 0 < n ∧ 0 < len ∧ len * n ≤ 2 ^ 24 then
        (fillV (fun i => some (i * n, n)) (List.replicate len z).flatten ((ps.toList.map (·.1)).zip vs)).map fun cs =>
          (.sl (newId site 0) (nextVer hr (newId site 0)) 0 len, [mk hr (newId site 0) n (vs.all fun v => (vcells v).all clo0) (chunk n len cs)])
      else none
    | _, _ => none
  | none => none
def effLoad (P : Program) (T : TypeId) (v : V) (hr : Nat → Option Blk) : Option V :=
  match v with
  | .ptr b ver i off =>
    match live hr b ver with
    | some k => match k.es[i]? with
      | some e => partV P T (e.drop off)
      | none => none
    | none => none
  | .ipt cs => partV P T cs
  | _ => none
def effStore (P : Program) (T : TypeId) (p v : V) (hr : Nat → Option Blk) : Option (V × List (Nat × Blk)) :=
  match p with
  | .ptr b ver i off =>
    match live hr b ver, sizeT P T with
    | some k, some n => match k.es[i]? with
      | some e =>
        if k.wr ∧ (vcells v).length = n ∧ off + n ≤ e.length ∧ (vcells v).all cellOk then
          some (.any, [(b, { k with es := k.es.set i (splice e off (vcells v)), cl := k.cl && (vcells v).all clo0 })])
        else none
      | none => none
    | _, _ => none
  | _ => none
/-- is a list with elements nil? -/
def effNil (P : Program) (o : BinOp) (T : TypeId) (y : Operand) (a : V) : Option V :=
  match P.underlying T, o, y, a with
  | some (.slice _), .eql, .const (.slice none 0 0), .isl _ (_ :: _) => some (.val (.bool false))
  | some (.slice _), .neq, .const (.slice none 0 0), .isl _ (_ :: _) => some (.val (.bool true))
  | _, _, _, _ => none
def effBin (P : Program) (o : BinOp) (T : TypeId) (x y : Operand) (a b : V) : Option V :=
  match toVal a, toVal b with
  | some u, some v => (pr P (do eqGuard o T x y u v; binOp o T u v)).map ofValue
  | _, _ => effNil P o T y a
def effConv (P : Program) (site : Nat) (S T : TypeId) (v : V) (hr : Nat → Option Blk) : Option (V × List (Nat × Blk)) :=
  match v with
  | .val (.int _ n) =>
    match P.underlying S, P.underlying T with
    | some _, some (.int k) => some (.val (.int k (k.wrap n)), [])
    | some _, some .string => some (.val (.string (Utf8.encode n)), [])
    | _, _ => none
  | .val (.string s) =>
    match P.underlying S, P.underlying T with
    | some .string, some .string => some (.val (.string s), [])
    | some .string, some (.slice E) =>
      match P.underlying E, sizeT P E with
      | some (.int .u8), some 1 => some (.sl (newId site 0) (nextVer hr (newId site 0)) 0 s.size, [mk hr (newId site 0) 1 true (byteCells s)])
      | _, _ => none
    | _, _ => none
  | v =>
    match elemT P S, P.underlying T with
    | some E, some .string =>
      match P.underlying E, seen hr 1 v with
      | some (.int .u8), some (es, _) => (es.mapM cellByte).map fun l => (.val (.string ⟨l.toArray⟩), [])
      | _, _ => none
    | _, _ => none
def effMake (P : Program) (site : Nat) (T : TypeId) (l c : V) (hr : Nat → Option Blk) : Option (V × List (Nat × Blk)) :=
  match elemT P T, natOf l, natOf c with
  | some E, some ln, some cn =>
    match sizeT P E, bytesT P E, zeroCs P E with
    | some n, some by_, some z =>
      if z.length = n ∧ 0 < n ∧ ln ≤ cn ∧ by_ * cn ≤ 2 ^ 47 ∧ cn < 2 ^ 62 then
        some (.sl (newId site 0) (nextVer hr (newId site 0)) 0 ln, [mk hr (newId site 0) n true (List.replicate cn z)])
      else none
    | _, _, _ => none
  | _, _, _ => none
/-- the bounds of x[l:h], x[0:0:0]: where from, where to (none: to the end), with a third one -/
def bnds (lo hi mx : Option Operand) (vs : List V) : Option (Nat × Option Nat × Bool) :=
  match lo, hi, mx, vs with
  | none, none, none, [] => some (0, none, false)
  | some _, none, none, [l] => (natOf l).map fun l => (l, none, false)
  | none, some _, none, [h] => (natOf h).map fun h => (0, some h, false)
  | some _, some _, none, [l, h] => match natOf l, natOf h with
    | some l, some h => some (l, some h, false)
    | _, _ => none
  | none, some _, some _, [h, m] => if natOf h = some 0 ∧ natOf m = some 0 then some (0, some 0, true) else none
  | some _, some _, some _, [l, h, m] => if natOf l = some 0 ∧ natOf h = some 0 ∧ natOf m = some 0 then some (0, some 0, true) else none
  | _, _, _, _ => none
def effSlice (P : Program) (T : TypeId) (v : V) (b : Option (Nat × Option Nat × Bool)) (hr : Nat → Option Blk) : Option V :=
  match b with
  | none => none
  | some (l, h, c) =>
    match v with
    | .val (.string s) =>
      match P.underlying T with
      | some .string => if c then none else
        match h with
        | none => if l ≤ s.size then some (.val (.string (s.extract l s.size))) else none
        | some h => if l ≤ h ∧ h ≤ s.size then some (.val (.string (s.extract l h))) else none
      | _ => none
    | .emp => match elemT P T with
      | some E => if l = 0 ∧ h.getD 0 = 0 then (sizeT P E).map fun _ => .emp else none
      | none => none
    | .isl sz es => match elemT P T with
      | some E => if sizeT P E = some sz then
          (if c then some .emp else if l ≤ h.getD es.length ∧ h.getD es.length ≤ es.length then some (.isl sz ((es.drop l).take (h.getD es.length - l))) else none) else none
      | none => none
    | .sl b ver off len => match elemT P T, live hr b ver with
      | some E, some k => if sizeT P E = some k.sz then
          (if c then some .emp else if l < h.getD len ∧ h.getD len ≤ len then some (.sl b ver (off + l) (h.getD len - l)) else if l = h.getD len ∧ h.getD len ≤ len then (if h = some 0 ∧ off = 0 ∧ 0 < len then some (.sl b ver 0 0) else some (.isl k.sz [])) else none) else none
      | _, _ => none
    | _ => none
def effFieldAddr (P : Program) (T : TypeId) (f : Nat) (v : V) (hr : Nat → Option Blk) : Option V :=
  match fieldsT P T with
  | some fs =>
    match fs[f]? with
    | some fd =>
      match sizeT P fd.type with
      | some (_ + 1) =>
        match v with
        | .ptr b ver i off => (live hr b ver).map fun _ => .ptr b ver i (off + fd.offset)
        | .ipt cs => some (.ipt (cs.drop fd.offset))
        | _ => none
      | _ => none
    | none => none
  | none => none
def effField (P : Program) (T : TypeId) (f : Nat) (v : V) : Option V :=
  match v with
  | .agg cs =>
    match fieldsT P T with
    | some fs =>
      match fs[f]? with
      | some fd => partV P fd.type (cs.drop fd.offset)
      | none => none
    | none => none
  | _ => none
def effIxAddr (P : Program) (T : TypeId) (v ix : V) (hr : Nat → Option Blk) : Option V :=
  match elemT P T, natOf ix with
  | some E, some n =>
    match sizeT P E with
    | some sz =>
      match v with
      | .isl sz' es => if sz = sz' then (es[n]?).map .ipt else none
      | .sl b ver off len =>
        match live hr b ver with
        | some k => if k.sz = sz ∧ n < len ∧ off + len ≤ k.es.length then some (.ptr b ver (off + n) 0) else none
        | none => none
      | _ => none
    | none => none
  | _, _ => none
def effIndex (P : Program) (T : TypeId) (v ix : V) : Option V :=
  match v with
  | .val (.string s) =>
    match P.underlying T, natOf ix with
    | some .string, some n => (s[n]?).map fun b => .val (.int .u8 b.toNat)
    | _, _ => none
  | _ => none
def effLen (P : Program) (T : Option TypeId) (v : V) (hr : Nat → Option Blk) : Option V :=
  match T.bind P.underlying with
  | some .string => match v with
    | .val (.string s) => some (.val (.int .i64 s.size))
    | _ => none
  | some (.slice _) => match v with
    | .emp => some (.val (.int .i64 0))
    | .isl _ es => some (.val (.int .i64 es.length))
    | .sl b ver _ len => (live hr b ver).map fun _ => .val (.int .i64 len)
    | _ => none
  | _ => none
def effCap (P : Program) (T : Option TypeId) (v : V) : Option V :=
  match T.bind P.underlying with
  | some (.slice _) => match v with
    | .emp => some (.val (.int .i64 0))
    | _ => none
  | _ => none
def effMin (P : Program) (s : Array Value → Sem Value) (vs : List V) : Option V :=
  match vs.mapM cellVal with
  | some l => (pr P (s l.toArray)).map ofValue
  | none => none
/-- what is appended -/
def srcOf (P : Program) (sz : Nat) (X : TypeId) (x : V) (hr : Nat → Option Blk) : Option (List (List V) × Bool) :=
  match P.underlying X with
  | some (.slice _) => seen hr sz x
  | some .string => match x with
    | .val (.string t) => if sz = 1 then some (byteCells t, true) else none
    | _ => none
  | _ => none
def effAppend (P : Program) (site : Nat) (S X : TypeId) (s x : V) (hr : Nat → Option Blk) : Option (V × List (Nat × Blk)) :=
  match elemT P S with
  | none => none
  | some E =>
    match sizeT P E, bytesT P E, zeroCs P E with
    | some sz, some by_, some z =>
      match srcOf P sz X x hr with
      | none => match P.underlying X, s, x with
        | some (.int .i64), .emp, .val (.int .i64 n) =>
          if 0 < n ∧ 0 < sz ∧ 0 < by_ ∧ n.toNat * by_ ≤ 2 ^ 47 ∧ z.length = sz then some (.sl (newId site 0) (nextVer hr (newId site 0)) 0 n.toNat, [mk hr (newId site 0) sz true (List.replicate n.toNat z)]) else none
        | _, _, _ => none
      | some (xs, cx) =>
        match s with
        | .emp => if 0 < sz ∧ 0 < by_ ∧ xs.length * by_ ≤ 2 ^ 47 ∧ z.length = sz then some (.sl (newId site 0) (nextVer hr (newId site 0)) 0 xs.length, [mk hr (newId site 0) sz cx xs]) else none
        | .sl b ver 0 len =>
          match live hr b ver with
          | some k =>
            if k.sz = sz ∧ k.wr ∧ len ≤ k.es.length ∧ 0 < sz ∧ 0 < by_ ∧ (len + xs.length) * by_ ≤ 2 ^ 47 ∧ b % 2 = 0 ∧ z.length = sz then
              some (.sl (newId site 0) (nextVer hr (newId site 0)) 0 (len + xs.length), [(b, goneB k), mk hr (newId site 0) sz (k.cl && cx) (k.es.take len ++ xs)])
            else none
          | none => none
        | _ => none
    | _, _, _ => none
def same (o : Option V) : Option (V × List (Nat × Blk)) := o.map fun v => (v, [])

/-- What an operation (that is no call of a function of Go's text) makes of its operands: a value, and blocks that it writes. -/
def eff (P : Program) (site : Nat) (op : Op) (vals : List V) (hr : Nat → Option Blk) : Option (V × List (Nat × Blk)) :=
  match op, vals with
  | .move _, [v] => some (v, [])
  | .assign _, [v] => some (v, [])
  | .pick _ _ _, [c, a, b] => match c with
    | .val (.bool c) => some (if c then a else b, [])
    | _ => none
  | .alloc T, [] => effAlloc P site T hr
  | .box T _, [v] => effBox P site T v hr
  | .build T ps, vs => effBuild P T ps vs
  | .buildSlice T len ps, vs => effBuildSlice P site T len ps vs hr
  | .load T _, [v] => same (effLoad P T v hr)
  | .store T _ _, [p, v] => effStore P T p v hr
  | .nilCheck _, [v] => match v with
    | .ptr b ver i off => (live hr b ver).map fun _ => (.ptr b ver i off, [])
    | .ipt cs => some (.ipt cs, [])
    | _ => none
  | .binOp o T x y _, [a, b] => same (effBin P o T x y a b)
  | .unOp o _ _, [v] => match v with
    | .val v => same ((pr P (Op.unary o v)).map ofValue)
    | _ => none
  | .convert S T _, [v] => effConv P site S T v hr
  | .makeSlice T _ _, [l, c] => effMake P site T l c hr
  | .slice T _ lo hi mx, v :: vs => same (effSlice P T v (bnds lo hi mx vs) hr)
  | .fieldAddr T _ f, [v] => same (effFieldAddr P T f v hr)
  | .field T _ f, [v] => same (effField P T f v)
  | .indexAddr T _ _, [v, ix] => same (effIxAddr P T v ix hr)
  | .index T _ _, [v, ix] => same (effIndex P T v ix)
  | .extract _ ix, [v] => match v with
    | .tup vs => (vs[ix]?).map fun v => (v, [])
    | _ => none
  | .makeFunc fn fi ca, [] => if fi.isEmpty && ca.isEmpty then some (.val (.func fn #[] #[]), []) else none
  | .call c, vs =>
    match c.callee with
    | .builtin .len => match vs with
      | [v] => same (effLen P (c.argTypes[0]?) v hr)
      | _ => none
    | .builtin .cap => match vs with
      | [v] => same (effCap P (c.argTypes[0]?) v)
      | _ => none
    | .builtin .min => same (effMin P (Builtin.min_ c.argTypes 0) vs)
    | .builtin .max => same (effMin P (Builtin.max_ c.argTypes 0) vs)
    | .builtin .append => match vs, c.argTypes[0]?, c.argTypes[1]? with
      | [s, x], some S, some X => if c.argTypes.size = 2 then effAppend P site S X s x hr else none
      | _, _, _ => none
    | _ => none
  | _, _ => none

end Go.Ai

namespace Go.Ai
open Go Go.RowKit

theorem cell_add (w : World) (b o n : Nat) : w.cell? ((⟨b, o, none⟩ : Addr).add n) = w.cell? ⟨b, o + n, none⟩ := by
  unfold Addr.add
  by_cases h : n = 0 <;> simp [h]

/-- What hangs on no block of the call's own: v as the interpreter sees it, x as Go does. -/
inductive CR (w : World) (I : Nat → Prop) : V → Value → Prop
  | val (v : Value) : CR w I (.val v) v
  | emp (a : Option Addr) : CR w I .emp (.slice a 0 0)
  | isl (sz : Nat) (es : List (List V)) (a : Option Addr) (cap : Nat) (vals : Nat → Nat → Value) (hc : es.length ≤ cap)
      (hl : ∀ e ∈ es, e.length = sz) (hk : ∀ e ∈ es, ∀ c ∈ e, cellOk c = true ∧ clo0 c = true)
      (ha : es ≠ [] → ∃ b o, a = some ⟨b, o, none⟩ ∧ I b)
      (h1 : ∀ i j e c, es[i]? = some e → e[j]? = some c → ∀ ad, a = some ad → w.cell? ⟨ad.block, ad.off + (i * sz + j), none⟩ = some (vals i j))
      (h2 : ∀ i j e c, es[i]? = some e → e[j]? = some c → CR w I c (vals i j)) : CR w I (.isl sz es) (.slice a es.length cap)
  | agg (cs : List V) (xs : Array Value) (hs : xs.size = cs.length) (h : ∀ (j : Nat) c, cs[j]? = some c → CR w I c (xs.getD j undef)) : CR w I (.agg cs) (.agg xs)
  | tup (cs : List V) (xs : Array Value) (hs : xs.size = cs.length) (h : ∀ (j : Nat) c, cs[j]? = some c → CR w I c (xs.getD j undef)) : CR w I (.tup cs) (.tuple xs)

/-- No new lists. -/
def noJ : Nat → Nat → Prop := fun _ _ => False

/-- J: the blocks of lists that are known to be new, under a name each. -/
structure Env where
  w : World
  I : Nat → Prop
  J : Nat → Nat → Prop
  ρ : Nat → Option (Nat × Nat)
  h : Nat → Option Blk

inductive VR (E : Env) : V → Value → Prop
  | any (x : Value) : VR E .any x
  | clo {v : V} {x : Value} (h : CR E.w E.I v x) : VR E v x
  | agg (cs : List V) (xs : Array Value) (hs : xs.size = cs.length) (h : ∀ (j : Nat) c, cs[j]? = some c → VR E c (xs.getD j undef)) : VR E (.agg cs) (.agg xs)
  | tup (cs : List V) (xs : Array Value) (hs : xs.size = cs.length) (h : ∀ (j : Nat) c, cs[j]? = some c → VR E c (xs.getD j undef)) : VR E (.tup cs) (.tuple xs)
  | ipt (cs : List V) (b o : Nat) (vals : Nat → Value) (hI : cs ≠ [] → E.I b) (hk : ∀ c ∈ cs, cellOk c = true ∧ clo0 c = true)
      (h1 : ∀ j c, cs[j]? = some c → E.w.cell? ⟨b, o + j, none⟩ = some (vals j)) (h2 : ∀ j c, cs[j]? = some c → CR E.w E.I c (vals j)) : VR E (.ipt cs) (.pointer (some ⟨b, o, none⟩))
  | ptr (b ver i off : Nat) (x : Value) (k : Blk) (hs : ∃ a, x = .pointer a) (hk : E.h b = some k) (hv : ver ≤ k.ver)
      (hx : ver = k.ver → ∃ g c, E.ρ b = some (g, c) ∧ x = .pointer (some ⟨g, i * k.sz + off, none⟩)) : VR E (.ptr b ver i off) x
  | sl (b ver off len : Nat) (x : Value) (k : Blk) (hs : ∃ a n c, x = .slice a n c) (hk : E.h b = some k) (hv : ver ≤ k.ver)
      (hx : ver = k.ver → (E.ρ b = none ∧ off = 0 ∧ len = 0 ∧ ∃ a, x = .slice a 0 0) ∨
        ∃ g c cap, E.ρ b = some (g, c) ∧ x = .slice (some ⟨g, off * k.sz, none⟩) len cap ∧ (off + cap) * k.sz ≤ c ∧ len ≤ cap) : VR E (.sl b ver off len) x
  | nsl (b ver sz : Nat) (es : List (List V)) (x : Value) (k : Blk) (hs : ∃ a n c, x = .slice a n c) (hk : E.h b = some k) (hv : ver ≤ k.ver)
      (hx : ver = k.ver → CR E.w (E.J b) (.isl sz es) x) : VR E (.nsl b ver sz es) x

theorem CR.mono {w w' : World} {I I' : Nat → Prop} (hI : ∀ g, I g → I' g) (hw : ∀ g o, I g → w'.cell? ⟨g, o, none⟩ = w.cell? ⟨g, o, none⟩)
    {v : V} {x : Value} (h : CR w I v x) : CR w' I' v x := by
  induction h with
  | val v => exact .val v
  | emp a => exact .emp a
  | isl sz es a cap vals hc hl hk ha h1 h2 ih =>
    refine .isl sz es a cap vals hc hl hk (fun hne => ?_) (fun i j e c he hj ad had => ?_) (fun i j e c he hj => ih i j e c he hj)
    · obtain ⟨b, o, h, hb⟩ := ha hne; exact ⟨b, o, h, hI _ hb⟩
    · obtain ⟨b, o, h, hb⟩ := ha (fun h => by subst h; simp at he)
      rw [h] at had
      obtain rfl := Option.some.inj had
      rw [hw _ _ hb]
      exact h1 i j e c he hj _ h
  | agg cs xs hs _ ih => exact .agg cs xs hs ih
  | tup cs xs hs _ ih => exact .tup cs xs hs ih

/-- E' is E with more: what is read there stands, a block's name is used anew only under a higher number. -/
structure Ext (E E' : Env) : Prop where
  I : ∀ g, E.I g → E'.I g
  w : ∀ g o, E.I g → E'.w.cell? ⟨g, o, none⟩ = E.w.cell? ⟨g, o, none⟩
  h : ∀ b k, E.h b = some k → ∃ k', E'.h b = some k' ∧ k.ver ≤ k'.ver ∧ (k'.ver = k.ver → k'.sz = k.sz ∧ E'.ρ b = E.ρ b)
  j : ∀ b k k', E.h b = some k → E'.h b = some k' → k'.ver = k.ver → (∀ g, E.J b g → E'.J b g) ∧ ∀ g o, E.J b g → E'.w.cell? ⟨g, o, none⟩ = E.w.cell? ⟨g, o, none⟩

theorem Ext.refl (E : Env) : Ext E E := ⟨fun _ h => h, fun _ _ _ => rfl, fun _ k h => ⟨k, h, Nat.le_refl _, fun _ => ⟨rfl, rfl⟩⟩, fun _ _ _ _ _ _ => ⟨fun _ h => h, fun _ _ _ => rfl⟩⟩
theorem Ext.trans {A B C : Env} (h : Ext A B) (k : Ext B C) : Ext A C :=
  ⟨fun g hg => k.I g (h.I g hg), fun g o hg => (k.w g o (h.I g hg)).trans (h.w g o hg), fun b x hx => by
    obtain ⟨y, hy, h1, h2⟩ := h.h b x hx
    obtain ⟨z, hz, h3, h4⟩ := k.h b y hy
    refine ⟨z, hz, Nat.le_trans h1 h3, fun e => ?_⟩
    have e1 : z.ver = y.ver := by omega
    have e2 : y.ver = x.ver := by omega
    exact ⟨(h4 e1).1.trans (h2 e2).1, (h4 e1).2.trans (h2 e2).2⟩, fun b x z hx hz e => by
    obtain ⟨y, hy, h1, _⟩ := h.h b x hx
    obtain ⟨z', hz', h3, _⟩ := k.h b y hy
    rw [hz] at hz'
    obtain rfl := Option.some.inj hz'
    obtain ⟨p1, p2⟩ := h.j b x y hx hy (by omega)
    obtain ⟨q1, q2⟩ := k.j b y z hy hz (by omega)
    exact ⟨fun g hg => q1 g (p1 g hg), fun g o hg => (q2 g o (p1 g hg)).trans (p2 g o hg)⟩⟩

theorem CR.ext {E E' : Env} (h : Ext E E') {v : V} {x : Value} (hv : CR E.w E.I v x) : CR E'.w E'.I v x := hv.mono h.I h.w

theorem VR.mono {E E' : Env} (hE : Ext E E') {v : V} {x : Value} (h : VR E v x) : VR E' v x := by
  induction h with
  | any x => exact .any x
  | clo h => exact .clo (h.ext hE)
  | agg cs xs hs _ ih => exact .agg cs xs hs ih
  | tup cs xs hs _ ih => exact .tup cs xs hs ih
  | ipt cs b o vals hI hk h1 h2 =>
    refine .ipt cs b o vals (fun h => hE.I _ (hI h)) hk (fun j c hj => ?_) (fun j c hj => (h2 j c hj).ext hE)
    rw [hE.w _ _ (hI (fun h => by subst h; simp at hj))]
    exact h1 j c hj
  | ptr b ver i off x k hs hk hv hx =>
    obtain ⟨k', hk', hle, heq⟩ := hE.h b k hk
    refine .ptr b ver i off x k' hs hk' (by omega) (fun e => ?_)
    have e1 : k'.ver = k.ver := by omega
    obtain ⟨es, er⟩ := heq e1
    rw [es, er]
    exact hx (by omega)
  | sl b ver off len x k hs hk hv hx =>
    obtain ⟨k', hk', hle, heq⟩ := hE.h b k hk
    refine .sl b ver off len x k' hs hk' (by omega) (fun e => ?_)
    have e1 : k'.ver = k.ver := by omega
    obtain ⟨es, er⟩ := heq e1
    rw [es, er]
    exact hx (by omega)
  | nsl b ver sz es x k hs hk hv hx =>
    obtain ⟨k', hk', hle, _⟩ := hE.h b k hk
    refine .nsl b ver sz es x k' hs hk' (by omega) (fun e => ?_)
    obtain ⟨j1, j2⟩ := hE.j b k k' hk hk' (by omega)
    exact (hx (by omega)).mono j1 j2

/-- A block of memory that may be written, all of it. -/
def Free (w : World) (g : Nat) : Prop := ∀ j, (w.cell? ⟨g, j, none⟩).isSome = true → w.frozen? ⟨g, j, none⟩ = false
theorem Free.of_block {w w' : World} {g : Nat} (h : w'.heap[g]? = w.heap[g]?) (hf : Free w g) : Free w' g := fun j hj => by
  rw [World.frozen?_of_block (a := ⟨g, j, none⟩) h]
  rw [World.cell?_of_block (a := ⟨g, j, none⟩) h] at hj
  exact hf j hj
/-- A block as the interpreter sees it, and what lies in memory. -/
def BR (E : Env) (b : Nat) (k : Blk) : Prop :=
  (E.ρ b = none ∧ k.es = []) ∨ ∃ g cap, E.ρ b = some (g, cap) ∧ g < E.w.heap.size ∧
    (∀ j, j < cap → (E.w.cell? ⟨g, j, none⟩).isSome = true) ∧ (k.wr = true → Free E.w g) ∧
    (∀ e ∈ k.es, e.length = k.sz) ∧ k.es.length * k.sz ≤ cap ∧
    (∀ i j e c, k.es[i]? = some e → e[j]? = some c → (∃ x, E.w.cell? ⟨g, i * k.sz + j, none⟩ = some x ∧ VR E c x) ∧ cellOk c = true ∧ (k.cl = true → clo0 c = true)) ∧
    (k.wr = true → ¬ E.I g) ∧ (k.wr = false → E.I g)

/-- What is known of the world all along: of its blocks below 'lo' alone. -/
structure Sys where
  lo : Nat
  U : World → Prop
  st : ∀ w w' : World, (∀ g, g < lo → w'.heap[g]? = w.heap[g]?) → U w → U w'

/-- What stands fast through a call: the world in which it began, what could be read there, the blocks that were handed in. -/
structure Cfg where
  S : Sys
  w0 : World
  I0 : Nat → Prop
  pb : List Nat

structure Good (C : Cfg) (E : Env) : Prop where
  blk : ∀ b k, E.h b = some k → BR E b k
  inj : ∀ b b' g c c', E.ρ b = some (g, c) → E.ρ b' = some (g, c') → b = b'
  iold : ∀ g, E.I g → g < E.w.heap.size
  isub : ∀ g, E.I g → C.I0 g ∨ (C.w0.heap.size ≤ g ∧ Free E.w g)
  own : ∀ b g c, E.ρ b = some (g, c) → (∃ j, b = 2 * j + 1 ∧ C.pb[j]? = some g) ∨ (C.w0.heap.size ≤ g ∧ b % 2 = 0)
  has : ∀ b, E.ρ b ≠ none → E.h b ≠ none
  os : E.w.os = C.w0.os
  tape : E.w.tape = C.w0.tape
  output : E.w.output = C.w0.output
  size : C.w0.heap.size ≤ E.w.heap.size
  frame : ∀ g, g < C.w0.heap.size → g ∉ C.pb → E.w.heap[g]? = C.w0.heap[g]?
  lo : ∀ b g c, E.ρ b = some (g, c) → C.S.lo ≤ g
  lo0 : C.S.lo ≤ C.w0.heap.size
  u : C.S.U E.w
  j : ∀ b g, E.J b g → g < E.w.heap.size ∧ C.w0.heap.size ≤ g ∧ Free E.w g ∧ ¬ E.I g ∧ (∀ b' c, E.ρ b' ≠ some (g, c)) ∧ ∀ b', E.J b' g → b' = b

/-- Some blocks change (U), some of memory's are written (W): what must be shown of the new ones. -/
theorem Good.change {C : Cfg} {E E' : Env} (G : Good C E) (U W : Nat → Prop)
    (hI : E'.I = E.I) (hJ : E'.J = E.J)
    (hU : ∀ b, ¬ U b → E'.h b = E.h b ∧ E'.ρ b = E.ρ b)
    (hW : ∀ g, W g → ∃ b c k, U b ∧ E.ρ b = some (g, c) ∧ E.h b = some k ∧ k.wr = true)
    (hsz : E.w.heap.size ≤ E'.w.heap.size)
    (hc : ∀ g, g < E.w.heap.size → ¬ W g → E'.w.heap[g]? = E.w.heap[g]?)
    (hv : ∀ b k, U b → E.h b = some k → ∃ k', E'.h b = some k' ∧ k.ver ≤ k'.ver ∧ (k'.ver = k.ver → k'.sz = k.sz ∧ E'.ρ b = E.ρ b))
    (hb : Ext E E' → ∀ b k, U b → E'.h b = some k → BR E' b k)
    (hinj : ∀ b b' g c c', U b → E'.ρ b = some (g, c) → E'.ρ b' = some (g, c') → b = b')
    (hown : ∀ b g c, U b → E'.ρ b = some (g, c) → (∃ j, b = 2 * j + 1 ∧ C.pb[j]? = some g) ∨ (C.w0.heap.size ≤ g ∧ b % 2 = 0))
    (hsome : ∀ b, U b → E'.ρ b ≠ none → E'.h b ≠ none)
    (hlo : ∀ b g c, U b → E'.ρ b = some (g, c) → C.S.lo ≤ g)
    (hnj : ∀ b g c, U b → E'.ρ b = some (g, c) → ∀ b', ¬ E.J b' g)
    (hos : E'.w.os = E.w.os) (ht : E'.w.tape = E.w.tape) (ho : E'.w.output = E.w.output) : Good C E' ∧ Ext E E' := by
  have hIW : ∀ g, E.I g → ¬ W g := by
    intro g hg hw
    obtain ⟨b, c, k, _, hr, hk, hwr⟩ := hW g hw
    rcases G.blk b k hk with ⟨h0, _⟩ | ⟨g', cap, h1, _, _, _, _, _, _, h2, _⟩
    · rw [h0] at hr; cases hr
    · rw [h1] at hr; obtain ⟨rfl, rfl⟩ := Prod.mk.inj (Option.some.inj hr); exact h2 hwr hg
  have hcell : ∀ g, g < E.w.heap.size → ¬ W g → ∀ o, E'.w.cell? ⟨g, o, none⟩ = E.w.cell? ⟨g, o, none⟩ ∧ E'.w.frozen? ⟨g, o, none⟩ = E.w.frozen? ⟨g, o, none⟩ := by
    intro g h1 h2 o
    have := hc g h1 h2
    exact ⟨World.cell?_of_block this, World.frozen?_of_block this⟩
  have hJW : ∀ b g, E.J b g → ¬ W g := by
    intro b g hj hw
    obtain ⟨b', c, k, _, hr, _, _⟩ := hW g hw
    exact (G.j b g hj).2.2.2.2.1 b' c hr
  have X : Ext E E' := by
    refine ⟨fun g h => by rw [hI]; exact h, fun g o h => (hcell g (G.iold g h) (hIW g h) o).1, fun b k hk => ?_, fun b k k' _ _ _ => ⟨fun g h => by rw [hJ]; exact h, fun g o h => (hcell g (G.j b g h).1 (hJW b g h) o).1⟩⟩
    by_cases hUb : U b
    · exact hv b k hUb hk
    · exact ⟨k, by rw [(hU b hUb).1]; exact hk, Nat.le_refl _, fun _ => ⟨rfl, (hU b hUb).2⟩⟩
  refine ⟨⟨fun b k hk => ?_, fun b b' g c c' h1 h2 => ?_, fun g hg => ?_, fun g hg => ?_, fun b g c hr => ?_, fun b hr => ?_, hos.trans G.os, ht.trans G.tape, ho.trans G.output, Nat.le_trans G.size hsz, fun g h1 h2 => ?_, fun b g c hr => ?_, G.lo0, C.S.st _ _ (fun g hg => hc g (Nat.lt_of_lt_of_le hg (Nat.le_trans G.lo0 G.size)) (fun hw => ?_)) G.u, fun b g hj => ?_⟩, X⟩
  · by_cases hUb : U b
    · exact hb X b k hUb hk
    · obtain ⟨e1, e2⟩ := hU b hUb
      rw [e1] at hk
      unfold BR
      rw [e2, hI]
      rcases G.blk b k hk with h0 | ⟨g, cap, h1, h2, h3, h4, h5, h6, h7, h8⟩
      · exact .inl h0
      · have hg := hcell g h2 (fun hw => by
          obtain ⟨b', c, k', hUb', hr, _, _⟩ := hW g hw
          have := G.inj b b' g cap c h1 hr
          subst this
          exact hUb hUb')
        refine .inr ⟨g, cap, h1, by omega, fun j hj => by rw [(hg j).1]; exact h3 j hj, fun hk j hj => by rw [(hg j).2]; rw [(hg j).1] at hj; exact h4 hk j hj, h5, h6, fun i j e c he hj => ?_, h8⟩
        obtain ⟨⟨x, hx, hvx⟩, hok⟩ := h7 i j e c he hj
        exact ⟨⟨x, by rw [(hg _).1]; exact hx, hvx.mono X⟩, hok⟩
  · by_cases hUb : U b
    · exact hinj b b' g c c' hUb h1 h2
    · by_cases hUb' : U b'
      · exact (hinj b' b g c' c hUb' h2 h1).symm
      · rw [(hU b hUb).2] at h1; rw [(hU b' hUb').2] at h2
        exact G.inj b b' g c c' h1 h2
  · rw [hI] at hg; exact Nat.lt_of_lt_of_le (G.iold g hg) hsz
  · rw [hI] at hg
    rcases G.isub g hg with h | ⟨h1, h2⟩
    · exact .inl h
    · refine .inr ⟨h1, fun j hj => ?_⟩
      have q := hcell g (G.iold g hg) (hIW g hg) j
      rw [q.2]
      rw [q.1] at hj
      exact h2 j hj
  · by_cases hUb : U b
    · exact hown b g c hUb hr
    · rw [(hU b hUb).2] at hr; exact G.own b g c hr
  · by_cases hUb : U b
    · exact hsome b hUb hr
    · rw [(hU b hUb).1]; rw [(hU b hUb).2] at hr; exact G.has b hr
  · rw [hc g (Nat.lt_of_lt_of_le h1 G.size) ?_]
    · exact G.frame g h1 h2
    · intro hw
      obtain ⟨b, c, k, _, hr, _, _⟩ := hW g hw
      rcases G.own b g c hr with ⟨j, _, hj⟩ | ⟨hge, _⟩
      · exact h2 (List.mem_of_getElem? hj)
      · omega
  · by_cases hUb : U b
    · exact hlo b g c hUb hr
    · rw [(hU b hUb).2] at hr; exact G.lo b g c hr
  · obtain ⟨b, c, k, _, hr, _, _⟩ := hW g hw
    have := G.lo b g c hr
    omega
  · rw [hJ] at hj
    obtain ⟨j1, j2, j3, j4, j5, j6⟩ := G.j b g hj
    refine ⟨Nat.lt_of_lt_of_le j1 hsz, j2, j3.of_block (hc g j1 (hJW b g hj)), by rw [hI]; exact j4, fun b' c hr => ?_, fun b' h => j6 b' (by rw [hJ] at h; exact h)⟩
    by_cases hUb : U b'
    · exact hnj b' g c hUb hr b hj
    · rw [(hU b' hUb).2] at hr; exact j5 b' c hr

/-- A draw changes nothing. -/
theorem Good.world {C : Cfg} {E : Env} (G : Good C E) (w' : World) (hh : w'.heap = E.w.heap) (hos : w'.os = E.w.os) (ht : w'.tape = E.w.tape) (ho : w'.output = E.w.output) :
    Good C ⟨w', E.I, E.J, E.ρ, E.h⟩ ∧ Ext E ⟨w', E.I, E.J, E.ρ, E.h⟩ :=
  G.change (E' := ⟨w', E.I, E.J, E.ρ, E.h⟩) (fun _ => False) (fun _ => False) rfl rfl (fun _ _ => ⟨rfl, rfl⟩) (fun _ h => h.elim) (by simp [hh]) (fun _ _ _ => by simp [hh]) (fun _ _ h => h.elim) (fun _ _ _ h => h.elim)
    (fun _ _ _ _ _ h => h.elim) (fun _ _ _ h => h.elim) (fun _ h => h.elim) (fun _ _ _ h => h.elim) (fun _ _ _ h => h.elim) hos ht ho

theorem newId_even (site j : Nat) : newId site j % 2 = 0 := by unfold newId; omega

theorem nextVer_ge {h : Nat → Option Blk} {id : Nat} {k : Blk} (hk : h id = some k) : k.ver < nextVer h id := by simp [nextVer, hk]

/-- A new block. -/
theorem Good.fresh {C : Cfg} {E : Env} (G : Good C E) (id : Nat) (hid : id % 2 = 0) (k' : Blk) (hver : k'.ver = nextVer E.h id) (hwr : k'.wr = true) (w' : World)
    (arr : Array Value) (el : TypeId) (fr : Nat × Nat) (hh : w'.heap = E.w.heap.push (.cells arr el fr)) (hos : w'.os = E.w.os) (ht : w'.tape = E.w.tape) (ho : w'.output = E.w.output)
    (hfr : ∀ j, j < arr.size → ¬ (fr.1 ≤ j ∧ j < fr.2)) (hlen : ∀ e ∈ k'.es, e.length = k'.sz) (hfit : k'.es.length * k'.sz ≤ arr.size)
    (hcells : ∀ i j e c, k'.es[i]? = some e → e[j]? = some c → (∃ x, arr[i * k'.sz + j]? = some x ∧ VR E c x) ∧ cellOk c = true ∧ (k'.cl = true → clo0 c = true)) :
    Good C ⟨w', E.I, E.J, upd E.ρ id (some (E.w.heap.size, arr.size)), upd E.h id (some k')⟩ ∧ Ext E ⟨w', E.I, E.J, upd E.ρ id (some (E.w.heap.size, arr.size)), upd E.h id (some k')⟩ := by
  have hnew : w'.heap[E.w.heap.size]? = some (.cells arr el fr) := by rw [hh]; simp
  have hcell : ∀ j, w'.cell? ⟨E.w.heap.size, j, none⟩ = arr[j]? := by intro j; simp [World.cell?, hnew]
  refine G.change (E' := ⟨w', E.I, E.J, upd E.ρ id (some (E.w.heap.size, arr.size)), upd E.h id (some k')⟩) (fun b => b = id) (fun _ => False) rfl rfl ?_ (fun _ h => h.elim) (by simp [hh]) ?_ ?_ ?_ ?_ ?_ ?_ ?_ ?_ hos ht ho
  · intro b hb
    simp [upd, hb]
  · intro g hg _
    show w'.heap[g]? = _
    rw [hh, Array.getElem?_push, if_neg (by omega)]
  · rintro b k rfl hk
    refine ⟨k', by simp [upd], ?_, fun e => ?_⟩
    · have := nextVer_ge hk; omega
    · have := nextVer_ge hk; omega
  · rintro X b k rfl hk
    simp only [upd, if_true] at hk
    obtain rfl := Option.some.inj hk
    refine .inr ⟨E.w.heap.size, arr.size, by simp [upd], by simp [hh], fun j hj => ?_, fun _ j hj => ?_, hlen, hfit, fun i j e c he hj => ?_, fun _ hI => ?_, fun h => by rw [hwr] at h; cases h⟩
    · rw [hcell j]; simp [hj]
    · have hj : j < arr.size := by
        rw [hcell] at hj
        exact (Array.getElem?_eq_some_iff.1 (Option.eq_some_of_isSome hj)).1
      have := hfr j hj
      simp only [World.frozen?, hnew]
      obtain ⟨lo, hi⟩ := fr
      simp only at this ⊢
      rw [Bool.eq_false_iff]
      simp only [ne_eq, Bool.and_eq_true, decide_eq_true_eq]
      exact this
    · obtain ⟨⟨x, hx, hvx⟩, hok⟩ := hcells i j e c he hj
      exact ⟨⟨x, by rw [hcell]; exact hx, hvx.mono X⟩, hok⟩
    · have := G.iold _ hI; omega
  · rintro b b' g c c' rfl h1 h2
    simp only [upd, if_true, Option.some.injEq, Prod.mk.injEq] at h1
    by_cases hb : b' = b
    · exact hb.symm
    · simp only [upd, hb, if_false] at h2
      exfalso
      have hne := G.has b' (by rw [h2]; simp)
      obtain ⟨k, hk⟩ := Option.ne_none_iff_exists'.1 hne
      rcases G.blk b' k hk with ⟨h0, _⟩ | ⟨g', cap, h3, h4, _⟩
      · rw [h0] at h2; cases h2
      · rw [h3] at h2; obtain ⟨rfl, rfl⟩ := Prod.mk.inj (Option.some.inj h2); omega
  · rintro b g c rfl h1
    simp only [upd, if_true, Option.some.injEq, Prod.mk.injEq] at h1
    exact .inr ⟨by have := G.size; omega, hid⟩
  · rintro b rfl _
    simp [upd]
  · rintro b g c rfl h1
    simp only [upd, if_true, Option.some.injEq, Prod.mk.injEq] at h1
    have := G.size
    have := G.lo0
    omega
  · rintro b g c rfl h1 b' hj
    simp only [upd, if_true, Option.some.injEq, Prod.mk.injEq] at h1
    have := (G.j b' g hj).1
    omega
end Go.Ai

namespace Go.Ai
open Go Go.RowKit
variable {C : Cfg} {P : Program} {E : Env}

/-- The run of an operation's work gives what the interpreter says. -/
def Does (C : Cfg) (P : Program) (E : Env) (s : Sem Value) (r : V × List (Nat × Blk)) : Prop :=
  ∃ y w' ρ', s.run P E.w = .ok y w' ∧ Good C ⟨w', E.I, E.J, ρ', updAll E.h r.2⟩ ∧ Ext E ⟨w', E.I, E.J, ρ', updAll E.h r.2⟩ ∧ VR ⟨w', E.I, E.J, ρ', updAll E.h r.2⟩ r.1 y

/-- ... and leaves the world as it is. -/
def Reads (P : Program) (E : Env) (s : Sem Value) (v : V) : Prop := ∃ y, s.run P E.w = .ok y E.w ∧ VR E v y

theorem Reads.does (G : Good C E) {s : Sem Value} {v : V} (h : Reads P E s v) : Does C P E s (v, []) := by
  obtain ⟨y, h1, h2⟩ := h
  exact ⟨y, E.w, E.ρ, h1, G, Ext.refl E, h2⟩

theorem same_some {o : Option V} {r : V × List (Nat × Blk)} (h : same o = some r) : ∃ v, o = some v ∧ r = (v, []) := by
  cases o with
  | none => cases h
  | some v => exact ⟨v, rfl, (Option.some.inj h).symm⟩

structure HR (hr h : Nat → Option Blk) (site : Nat) : Prop where
  sub : ∀ b k, hr b = some k → h b = some k
  new : hr (newId site 0) = h (newId site 0)

theorem live_some {h : Nat → Option Blk} {b ver : Nat} {k : Blk} (hl : live h b ver = some k) : h b = some k ∧ k.ver = ver := by
  unfold live at hl
  split at hl
  · split at hl
    · rename_i h1 h2; cases hl; exact ⟨h1, h2⟩
    · cases hl
  · cases hl

theorem HR.live {hr h : Nat → Option Blk} {site b ver : Nat} {k : Blk} (H : HR hr h site) (hl : live hr b ver = some k) : h b = some k ∧ k.ver = ver :=
  ⟨H.sub _ _ (live_some hl).1, (live_some hl).2⟩
theorem HR.next {hr h : Nat → Option Blk} {site : Nat} (H : HR hr h site) : nextVer hr (newId site 0) = nextVer h (newId site 0) := by
  unfold nextVer; rw [H.new]

theorem sizeT_some {T : TypeId} {n : Nat} (h : sizeT P T = some n) : ∃ i, P.info? T = some i ∧ i.size = n := by
  unfold sizeT at h
  cases hi : P.info? T with
  | none => rw [hi] at h; cases h
  | some i => rw [hi] at h; exact ⟨i, rfl, Option.some.inj h⟩
theorem elemT_some {T e : TypeId} (h : elemT P T = some e) : P.underlying T = some (.slice e) := by
  unfold elemT at h
  split at h
  · rename_i h1; cases h; exact h1
  · cases h
theorem fieldsT_some {T : TypeId} {fs : Array Field} (h : fieldsT P T = some fs) : P.underlying T = some (.struct fs) := by
  unfold fieldsT at h
  split at h
  · rename_i h1; cases h; exact h1
  · cases h

theorem ofCell_cr (w : World) (I : Nat → Prop) (x : Value) : CR w I (ofCell x) x := by
  unfold ofCell
  split
  · exact .emp none
  · exact .val x
theorem ofValue_cr (w : World) (I : Nat → Prop) (x : Value) : CR w I (ofValue x) x := by
  cases x with
  | agg cs =>
    refine .agg _ cs (by simp) (fun j c hj => ?_)
    rw [List.getElem?_map] at hj
    cases hx : cs[j]? with
    | none => simp [hx] at hj
    | some y =>
      simp [hx] at hj
      subst hj
      simp only [Array.getD_eq_getD_getElem?, hx, Option.getD_some]
      exact ofCell_cr w I y
  | _ => first | exact ofCell_cr w I _ | (unfold ofValue; exact ofCell_cr w I _)

theorem clo0_cr {c : V} {x : Value} (h : VR E c x) (hc : clo0 c = true) : CR E.w E.I c x := by
  cases h with
  | clo h => exact h
  | _ => simp [clo0] at hc

theorem cellVal_vr {c : V} {x v : Value} (h : VR E c x) (hc : cellVal c = some v) : x = v := by
  cases c with
  | val u =>
    simp [cellVal] at hc
    subst hc
    cases h with
    | clo h => cases h; rfl
  | _ => simp [cellVal] at hc

theorem val_vr {x v : Value} (h : VR E (.val v) x) : x = v := cellVal_vr h rfl

theorem mapM_cellVal : ∀ {cs : List V} {l : List Value}, cs.mapM cellVal = some l → l.length = cs.length ∧ ∀ (j : Nat) c, cs[j]? = some c → ∃ v, cellVal c = some v ∧ l[j]? = some v
  | [], l, h => by simp at h; subst h; exact ⟨rfl, fun j c hj => by simp at hj⟩
  | c :: cs, l, h => by
    simp only [List.mapM_cons, Option.bind_eq_bind, Option.bind_eq_some_iff, Option.pure_def, Option.some.injEq] at h
    obtain ⟨v, hv, l', hl', rfl⟩ := h
    obtain ⟨h1, h2⟩ := mapM_cellVal hl'
    refine ⟨by simp [h1], fun j d hj => ?_⟩
    cases j with
    | zero => simp at hj; subst hj; exact ⟨v, hv, rfl⟩
    | succ j => simp at hj; exact h2 j d hj

theorem vr_agg {cs : List V} {x : Value} (h : VR E (.agg cs) x) : ∃ xs : Array Value, x = .agg xs ∧ xs.size = cs.length ∧ ∀ (j : Nat) c, cs[j]? = some c → VR E c (xs.getD j undef) := by
  cases h with
  | clo h => cases h with
    | agg _ xs hs h => exact ⟨xs, rfl, hs, fun j c hj => .clo (h j c hj)⟩
  | agg _ xs hs h => exact ⟨xs, rfl, hs, h⟩
theorem vr_tup {cs : List V} {x : Value} (h : VR E (.tup cs) x) : ∃ xs : Array Value, x = .tuple xs ∧ xs.size = cs.length ∧ ∀ (j : Nat) c, cs[j]? = some c → VR E c (xs.getD j undef) := by
  cases h with
  | clo h => cases h with
    | tup _ xs hs h => exact ⟨xs, rfl, hs, fun j c hj => .clo (h j c hj)⟩
  | tup _ xs hs h => exact ⟨xs, rfl, hs, h⟩

theorem toVal_vr {c : V} {x v : Value} (h : VR E c x) (hc : toVal c = some v) : x = v := by
  unfold toVal at hc
  split at hc
  · rename_i u; cases hc; exact val_vr h
  · rename_i cs
    obtain ⟨xs, rfl, hs, hx⟩ := vr_agg h
    simp only [Option.map_eq_some_iff] at hc
    obtain ⟨l, hl, rfl⟩ := hc
    obtain ⟨h1, h2⟩ := mapM_cellVal hl
    congr 1
    apply Array.ext (by simp [hs, h1])
    intro j hj1 hj2
    have hj : j < cs.length := by omega
    obtain ⟨v, hv, hlv⟩ := h2 j cs[j] (List.getElem?_eq_getElem hj)
    have := cellVal_vr (hx j cs[j] (List.getElem?_eq_getElem hj)) hv
    simp only [Array.getD_eq_getD_getElem?, Array.getElem?_eq_getElem hj1, Option.getD_some] at this
    rw [this]
    simp only [List.getElem_toArray]
    rw [List.getElem?_eq_getElem (by simpa using hj2)] at hlv
    exact (Option.some.inj hlv).symm
  · cases hc

/-- The cells side by side from an address on. -/
def At (E : Env) (g o : Nat) (cs : List V) : Prop := ∀ (j : Nat) c, cs[j]? = some c → ∃ x, E.w.cell? ⟨g, o + j, none⟩ = some x ∧ VR E c x

theorem At.drop {g o : Nat} {cs : List V} (h : At E g o cs) (n : Nat) : At E g (o + n) (cs.drop n) := by
  intro j c hj
  rw [List.getElem?_drop] at hj
  have := h _ c hj
  rwa [show o + (n + j) = o + n + j by omega] at this

theorem At.load {g o : Nat} {cs : List V} (h : At E g o cs) {n : Nat} (hn : n ≤ cs.length) :
    ∃ xs : List Value, (loadCells ⟨g, o, none⟩ n).run P E.w = .ok xs.toArray E.w ∧ xs.length = n ∧ ∀ (j : Nat) c, j < n → cs[j]? = some c → VR E c (xs.getD j undef) := by
  have hx : ∀ j, j < n → ∃ x, E.w.cell? ⟨g, o + j, none⟩ = some x := fun j hj => by
    obtain ⟨x, h1, _⟩ := h j cs[j] (List.getElem?_eq_getElem (by omega))
    exact ⟨x, h1⟩
  refine ⟨(List.range n).map fun j => (E.w.cell? ⟨g, o + j, none⟩).getD undef, ?_, by simp, fun j c hj hc => ?_⟩
  · refine run_loadCells E.w ⟨g, o, none⟩ n (fun j => (E.w.cell? ⟨g, o + j, none⟩).getD undef) (fun j hj => ?_)
    obtain ⟨x, hx⟩ := hx j hj
    rw [cell_add, hx]; rfl
  · obtain ⟨x, h1, h2⟩ := h j c hc
    simp [List.getD, hj, h1, h2]

theorem run_und {T : TypeId} {d : TypeDesc} (h : P.underlying T = some d) (w : World) : (underlying T).run P w = .ok d w := by
  simp [underlying, program, h, bind, Sem.bind, pure, Sem.run]
theorem run_isAgg {T : TypeId} {d : TypeDesc} (h : P.underlying T = some d) (w : World) : (isAgg T).run P w = .ok (isAggD d) w := by
  unfold isAgg isAggD
  rw [Sem.run_bind, run_und h]
  cases d <;> rfl
theorem run_size {T : TypeId} {n : Nat} (h : sizeT P T = some n) (w : World) : (sizeOf T).run P w = .ok n w := by
  obtain ⟨i, hi, rfl⟩ := sizeT_some h
  simp [sizeOf, typeInfo, program, hi, bind, Sem.bind, pure, Sem.run]

theorem At.loadVar {g o : Nat} {cs : List V} (h : At E g o cs) {T : TypeId} {r : V} (hp : partV P T cs = some r) : Reads P E (loadVar T ⟨g, o, none⟩) r := by
  unfold partV at hp
  split at hp
  · rename_i d n hd hn
    unfold Go.loadVar Reads
    rw [Sem.run_bind, run_isAgg hd]
    simp only [Result.andThen]
    split at hp
    · rename_i ha
      split at hp
      · rename_i hle
        cases hp
        obtain ⟨xs, h1, h2, h3⟩ := h.load (P := P) hle
        refine ⟨.agg xs.toArray, ?_, .agg _ _ (by simp; omega) (fun j c hj => ?_)⟩
        · simp only [ha, if_true]
          simp only [Sem.run_bind, run_size hn, Result.andThen, h1]
          rfl
        · rw [List.getElem?_take] at hj
          split at hj
          · rename_i hjn
            have := h3 j c hjn hj
            simpa using this
          · cases hj
      · cases hp
    · rename_i ha
      cases hcs : cs with
      | nil => rw [hcs] at hp; cases hp
      | cons c rest =>
        rw [hcs] at hp
        obtain rfl := Option.some.inj hp
        obtain ⟨x, h1, h2⟩ := h 0 _ (by rw [hcs]; rfl)
        refine ⟨x, ?_, h2⟩
        simp only [ha]
        simp only [Nat.add_zero] at h1
        simp [h1]
  · cases hp

/-- What a block of the call's own that is there in memory shows. -/
theorem BR.at {b : Nat} {k : Blk} (hb : BR E b k) {g c : Nat} (hr : E.ρ b = some (g, c)) {i : Nat} {e : List V} (he : k.es[i]? = some e) : At E g (i * k.sz) e := by
  intro j v hj
  rcases hb with ⟨h0, _⟩ | ⟨g', cap, h1, _, _, _, _, _, h7, _⟩
  · rw [h0] at hr; cases hr
  · rw [h1] at hr; obtain ⟨rfl, rfl⟩ := Prod.mk.inj (Option.some.inj hr)
    exact (h7 i j e v he hj).1

theorem vr_ptr {b ver i off : Nat} {x : Value} (h : VR E (.ptr b ver i off) x) {k : Blk} (hk : E.h b = some k) (hv : k.ver = ver) :
    ∃ g c, E.ρ b = some (g, c) ∧ x = .pointer (some ⟨g, i * k.sz + off, none⟩) := by
  cases h with
  | clo h => cases h
  | ptr _ _ _ _ _ k' _ hk' hv' hx =>
    rw [hk] at hk'
    obtain rfl := Option.some.inj hk'
    exact hx hv.symm

theorem vr_ipt {cs : List V} {x : Value} (h : VR E (.ipt cs) x) : ∃ b o, x = .pointer (some ⟨b, o, none⟩) ∧ At E b o cs ∧ (∀ c ∈ cs, cellOk c = true ∧ clo0 c = true) ∧ (cs ≠ [] → E.I b) := by
  cases h with
  | clo h => cases h
  | ipt _ b o vals hI hk h1 h2 => exact ⟨b, o, rfl, fun j c hj => ⟨vals j, h1 j c hj, .clo (h2 j c hj)⟩, hk, hI⟩

theorem load_ok (G : Good C E) {T : TypeId} {v r : V} {x : Value} {hr : Nat → Option Blk} {site : Nat} (H : HR hr E.h site) (hv : VR E v x) (h : effLoad P T v hr = some r) : Reads P E (Instr.loadAt T x) r := by
  unfold effLoad at h
  split at h
  · rename_i b ver i off
    split at h
    · rename_i k hk
      split at h
      · rename_i e he
        obtain ⟨hk1, hk2⟩ := H.live hk
        obtain ⟨g, c, hρ, rfl⟩ := vr_ptr hv hk1 hk2
        have := ((G.blk b k hk1).at hρ he).drop off
        have := this.loadVar h
        exact this
      · cases h
    · cases h
  · obtain ⟨b, o, rfl, hat, _⟩ := vr_ipt hv
    have := hat.loadVar h
    exact this
  · cases h
end Go.Ai

namespace Go.Ai
open Go Go.RowKit
variable {C : Cfg} {P : Program} {E : Env}

theorem cell_one {c : V} {x : Value} (h : VR E c x) (hc : cellOk c = true) : x.oneCell' = true ∧ x.cells = #[x] := by
  cases h with
  | any => cases hc
  | clo h => cases h with
    | val => cases x <;> first | exact ⟨rfl, rfl⟩ | cases hc
    | emp a => exact ⟨rfl, rfl⟩
    | isl => exact ⟨rfl, rfl⟩
    | agg => cases hc
    | tup => cases hc
  | agg => cases hc
  | tup => cases hc
  | ipt => exact ⟨rfl, rfl⟩
  | ptr b ver i off x k hs hk hv hx => obtain ⟨a, rfl⟩ := hs; exact ⟨rfl, rfl⟩
  | nsl b ver sz es x k hs hk hv hx => obtain ⟨a, n, c, rfl⟩ := hs; exact ⟨rfl, rfl⟩
  | sl b ver off len x k hs hk hv hx => obtain ⟨a, n, c, rfl⟩ := hs; exact ⟨rfl, rfl⟩

theorem vcells_vr {v : V} {x : Value} (h : VR E v x) (hok : (vcells v).all cellOk = true) :
    x.cells.size = (vcells v).length ∧ (∀ (j : Nat) c, (vcells v)[j]? = some c → VR E c (x.cells.getD j undef) ∧ cellOk c = true) ∧ ∀ y ∈ x.cells.toList, y.oneCell' = true := by
  by_cases ha : ∃ cs, v = .agg cs
  · obtain ⟨cs, rfl⟩ := ha
    obtain ⟨xs, rfl, hs, hx⟩ := vr_agg h
    simp only [vcells, List.all_eq_true] at hok ⊢
    refine ⟨hs, fun j c hj => ⟨hx j c hj, hok c (List.mem_of_getElem? hj)⟩, fun y hy => ?_⟩
    have hy : y ∈ xs.toList := hy
    obtain ⟨j, hj, rfl⟩ := List.getElem_of_mem hy
    have hj1 : j < xs.size := by simpa using hj
    have hj' : j < cs.length := by omega
    have := (cell_one (hx j cs[j] (List.getElem?_eq_getElem hj')) (hok _ (List.getElem_mem hj'))).1
    simpa [Array.getD, hj1] using this
  · have hv : vcells v = [v] := by
      unfold vcells
      split
      · exact absurd ⟨_, rfl⟩ ha
      · rfl
    rw [hv] at hok ⊢
    simp at hok
    obtain ⟨h1, h2⟩ := cell_one h hok
    rw [h2]
    refine ⟨rfl, fun j c hj => ?_, fun y hy => ?_⟩
    · cases j with
      | zero => simp at hj; subst hj; exact ⟨by simpa using h, hok⟩
      | succ j => simp at hj
    · simp at hy; subst hy; exact h1

theorem setCells_other (b : Nat) : ∀ (vs : List Value) (o : Nat) (w : World), (∀ g, g ≠ b → (w.setCells b o vs).heap[g]? = w.heap[g]?) ∧ (w.setCells b o vs).heap.size = w.heap.size ∧
    (w.setCells b o vs).os = w.os ∧ (w.setCells b o vs).tape = w.tape ∧ (w.setCells b o vs).output = w.output
  | [], _, w => ⟨fun _ _ => rfl, rfl, rfl, rfl, rfl⟩
  | v :: r, o, w => by
    obtain ⟨h1, h2, h3, h4, h5⟩ := setCells_other b r (o + 1) (w.setCell ⟨b, o, none⟩ v)
    refine ⟨fun g hg => ?_, ?_, h3, h4, h5⟩
    · rw [World.setCells, h1 g hg, Below.heap_setCell _ _ _ _ hg]
    · rw [World.setCells, h2]; simp [World.setCell]

theorem splice_get {α : Type} (cs xs : List α) (off : Nat) (hfit : off + xs.length ≤ cs.length) (j : Nat) :
    (cs.take off ++ (xs ++ cs.drop (off + xs.length)))[j]? = if off ≤ j ∧ j < off + xs.length then xs[j - off]? else cs[j]? := by
  have hl : (cs.take off).length = off := by rw [List.length_take]; omega
  by_cases h1 : j < off
  · rw [List.getElem?_append_left (by omega), List.getElem?_take, if_pos h1, if_neg (by omega)]
  · rw [List.getElem?_append_right (by omega), hl]
    by_cases h2 : j < off + xs.length
    · rw [List.getElem?_append_left (by omega), if_pos ⟨by omega, h2⟩]
    · rw [List.getElem?_append_right (by omega), List.getElem?_drop, if_neg (by omega)]
      congr 1; omega

theorem splice_length {cs xs : List V} {off : Nat} (hfit : off + xs.length ≤ cs.length) : (splice cs off xs).length = cs.length := by
  simp [splice]; omega

theorem flat_lt {i j n sz cap : Nat} (hj : j < sz) (hi : i < n) (hf : n * sz ≤ cap) : i * sz + j < cap := by
  have : (i + 1) * sz ≤ n * sz := Nat.mul_le_mul_right _ (by omega)
  rw [Nat.add_mul] at this
  omega
theorem flat_inj {i j i' j' sz : Nat} (hj : j < sz) (hj' : j' < sz) (h : i * sz + j = i' * sz + j') : i = i' ∧ j = j' := by
  have h1 : (i * sz + j) / sz = i := by rw [Nat.add_comm, Nat.add_mul_div_right _ _ (by omega), Nat.div_eq_of_lt hj]; omega
  have h2 : (i' * sz + j') / sz = i' := by rw [Nat.add_comm, Nat.add_mul_div_right _ _ (by omega), Nat.div_eq_of_lt hj']; omega
  have : i = i' := by rw [← h1, ← h2, h]
  subst this
  exact ⟨rfl, by omega⟩

/-- Cells of a block of the call's own are written. -/
theorem Good.write (G : Good C E) {b : Nat} {k k' : Blk} (hk : E.h b = some k) (hwr : k.wr = true) {g cap : Nat} (hρ : E.ρ b = some (g, cap)) (off : Nat) (xs : List Value)
    (hfit : off + xs.length ≤ cap) (hv : k'.ver = k.ver) (hs : k'.sz = k.sz) (hw : k'.wr = true)
    (hlen : ∀ e ∈ k'.es, e.length = k'.sz) (hcap : k'.es.length * k'.sz ≤ cap)
    (hcells : ∀ i j e c, k'.es[i]? = some e → e[j]? = some c →
      ((off ≤ i * k.sz + j ∧ i * k.sz + j < off + xs.length ∧ ∃ x, xs[i * k.sz + j - off]? = some x ∧ VR E c x) ∨
       (¬ (off ≤ i * k.sz + j ∧ i * k.sz + j < off + xs.length) ∧ ∃ x, E.w.cell? ⟨g, i * k.sz + j, none⟩ = some x ∧ VR E c x)) ∧ cellOk c = true ∧ (k'.cl = true → clo0 c = true)) :
    Good C ⟨E.w.setCells g off xs, E.I, E.J, E.ρ, upd E.h b (some k')⟩ ∧ Ext E ⟨E.w.setCells g off xs, E.I, E.J, E.ρ, upd E.h b (some k')⟩ := by
  obtain ⟨s1, s2, s3, s4, s5⟩ := setCells_other g xs off E.w
  rcases G.blk b k hk with ⟨h0, _⟩ | ⟨g', cap', h1, h2, h3, h4, h5, h6, h7, h8, h9⟩
  · rw [h0] at hρ; cases hρ
  rw [h1] at hρ; obtain ⟨rfl, rfl⟩ := Prod.mk.inj (Option.some.inj hρ)
  refine G.change (E' := ⟨E.w.setCells g' off xs, E.I, E.J, E.ρ, upd E.h b (some k')⟩) (fun x => x = b) (fun x => x = g') rfl rfl ?_ ?_ (by show _ ≤ _; rw [s2]; exact Nat.le_refl _) ?_ ?_ ?_ ?_ ?_ ?_ ?_ ?_ s3 s4 s5
  · intro x hx; simp [upd, hx]
  · rintro x rfl; exact ⟨b, cap', k, rfl, h1, hk, hwr⟩
  · intro x _ hx; exact s1 x hx
  · rintro x y rfl hy
    rw [hk] at hy; obtain rfl := Option.some.inj hy
    exact ⟨k', by simp [upd], by omega, fun _ => ⟨hs, rfl⟩⟩
  · rintro X x y rfl hy
    simp only [upd, if_true] at hy
    obtain rfl := Option.some.inj hy
    have hcell : ∀ j, j < cap' → ¬ (off ≤ j ∧ j < off + xs.length) → (E.w.setCells g' off xs).cell? ⟨g', j, none⟩ = E.w.cell? ⟨g', j, none⟩ := fun j _ hj =>
      World.cell?_setCells_out g' xs off E.w ⟨g', j, none⟩ (fun _ _ => by show j < off ∨ off + xs.length ≤ j; omega)
    have hin : ∀ j (hj : j < xs.length), (E.w.setCells g' off xs).cell? ⟨g', off + j, none⟩ = some xs[j] := fun j hj =>
      World.cell?_setCells_in g' xs off E.w (fun j hj => h3 _ (by omega)) j hj
    refine .inr ⟨g', cap', h1, by show _ < _; rw [s2]; exact h2, fun j hj => ?_, fun _ j hj => ?_, hlen, hcap, fun i j e c he hj => ?_, fun _ => h8 hwr, fun h => by rw [hw] at h; cases h⟩
    · by_cases hin' : off ≤ j ∧ j < off + xs.length
      · have := hin (j - off) (by omega)
        rw [show off + (j - off) = j by omega] at this
        show (World.cell? _ _).isSome = true
        rw [this]; rfl
      · show (World.cell? _ _).isSome = true
        rw [hcell j hj hin']; exact h3 j hj
    · show World.frozen? _ _ = false
      rw [World.frozen?_setCells]
      refine h4 hwr j ?_
      by_cases hin' : off ≤ j ∧ j < off + xs.length
      · exact h3 j (by omega)
      · have e := World.cell?_setCells_out g' xs off E.w ⟨g', j, none⟩ (fun _ _ => by show j < off ∨ off + xs.length ≤ j; omega)
        have hj' : ((E.w.setCells g' off xs).cell? ⟨g', j, none⟩).isSome = true := hj
        rw [e] at hj'
        exact hj'
    · obtain ⟨hor, hok⟩ := hcells i j e c he hj
      refine ⟨?_, hok⟩
      have hje : j < k.sz := by
        have := hlen e (List.mem_of_getElem? he)
        have hjl := (List.getElem?_eq_some_iff.1 hj).1
        omega
      have hil := (List.getElem?_eq_some_iff.1 he).1
      rw [hs] at hcap ⊢
      have hlt := flat_lt hje hil hcap
      rcases hor with ⟨o1, o2, x, hx, hvx⟩ | ⟨hno, x, hx, hvx⟩
      · refine ⟨x, ?_, hvx.mono X⟩
        have hl := (List.getElem?_eq_some_iff.1 hx).1
        have := hin (i * k.sz + j - off) hl
        rw [show off + (i * k.sz + j - off) = i * k.sz + j by omega] at this
        show World.cell? _ _ = _
        rw [this]
        rw [List.getElem?_eq_getElem hl] at hx
        exact hx
      · refine ⟨x, ?_, hvx.mono X⟩
        show World.cell? _ _ = _
        rw [hcell _ hlt hno]; exact hx
  · rintro x b' g c c' rfl e1 e2; exact G.inj _ _ _ _ _ e1 e2
  · rintro x g c rfl e; exact G.own _ _ _ e
  · rintro x rfl _; simp [upd]
  · rintro x g c rfl e; exact G.lo _ _ _ e
  · rintro x g c rfl e b' hj; exact (G.j b' g hj).2.2.2.2.1 _ _ e

theorem store_ok (G : Good C E) {T : TypeId} {p v : V} {r : V × List (Nat × Blk)} {x y : Value} {hr : Nat → Option Blk} {site : Nat} (H : HR hr E.h site)
    (hp : VR E p x) (hv : VR E v y) (h : effStore P T p v hr = some r) :
    ∃ w', (Instr.storeAt T x y).run P E.w = .ok () w' ∧ Good C ⟨w', E.I, E.J, E.ρ, updAll E.h r.2⟩ ∧ Ext E ⟨w', E.I, E.J, E.ρ, updAll E.h r.2⟩ ∧ r.1 = .any := by
  unfold effStore at h
  split at h
  · rename_i b ver i off
    split at h
    · rename_i k n hk hn
      split at h
      · rename_i e he
        split at h
        · rename_i hc
          obtain ⟨c1, c2, c3, c4⟩ := hc
          obtain rfl := Option.some.inj h
          obtain ⟨hk1, hk2⟩ := H.live hk
          obtain ⟨g, cap, hρ, rfl⟩ := vr_ptr hp hk1 hk2
          obtain ⟨z1, z2, z3⟩ := vcells_vr hv c4
          have hB := G.blk b k hk1
          rcases hB with ⟨h0, _⟩ | ⟨g', cap', h1, h2, h3, h4, h5, h6, h7, h8, h9⟩
          · rw [h0] at hρ; cases hρ
          rw [h1] at hρ; obtain ⟨rfl, rfl⟩ := Prod.mk.inj (Option.some.inj hρ)
          have hel := h5 e (List.mem_of_getElem? he)
          have hil := (List.getElem?_eq_some_iff.1 he).1
          have hbound : i * k.sz + off + y.cells.toList.length ≤ cap' := by
            have : (i + 1) * k.sz ≤ k.es.length * k.sz := Nat.mul_le_mul_right _ (by omega)
            rw [Nat.add_mul] at this
            simp only [Array.length_toList]
            omega
          have hrun := run_storeCells_cells (P := P) g' (i * k.sz + off) y.cells.toList 0 E.w (fun j hj => h3 _ (by omega)) (fun j hj => h4 c1 _ (h3 _ (by omega))) z3
          refine ⟨E.w.setCells g' (i * k.sz + off) y.cells.toList, ?_, ?_⟩
          · show (storeVar T ⟨g', i * k.sz + off, none⟩ y).run P E.w = _
            unfold storeVar
            simp only [Sem.run_bind, run_size hn, Result.andThen]
            rw [if_neg (by simp; omega)]
            simpa [Sem.run_bind, Result.andThen, Sem.run] using hrun
          · have := G.write (k' := { k with es := k.es.set i (splice e off (vcells v)), cl := k.cl && (vcells v).all clo0 }) hk1 c1 h1 (i * k.sz + off) y.cells.toList hbound rfl rfl c1 ?_ ?_ ?_
            · exact ⟨this.1, this.2, rfl⟩
            · intro e' he'
              rcases List.mem_or_eq_of_mem_set he' with h' | h'
              · exact h5 e' h'
              · subst h'; show (splice e off (vcells v)).length = k.sz; rw [splice_length (by omega)]; exact hel
            · simpa using h6
            · intro i' j' e' c' he' hj'
              by_cases hii : i = i'
              · subst hii
                simp only [List.getElem?_set_self hil] at he'
                obtain rfl := Option.some.inj he'
                unfold splice at hj'
                rw [splice_get e (vcells v) off (by omega) j'] at hj'
                simp only [Array.length_toList, z1]
                split at hj'
                · rename_i hj2
                  have hz := z2 _ _ hj'
                  refine ⟨.inl ⟨by omega, by omega, y.cells.getD (j' - off) undef, ?_, hz.1⟩, hz.2, fun hcl => ?_⟩
                  · have hlt : j' - off < y.cells.size := by omega
                    rw [show i * k.sz + j' - (i * k.sz + off) = j' - off by omega]
                    simp [hlt]
                  · simp only [Bool.and_eq_true, List.all_eq_true] at hcl
                    exact hcl.2 _ (List.mem_of_getElem? hj')
                · rename_i hj2
                  have := h7 i j' e c' he hj'
                  refine ⟨.inr ⟨by omega, this.1⟩, this.2.1, fun hcl => this.2.2 ?_⟩
                  simp only [Bool.and_eq_true] at hcl
                  exact hcl.1
              · rw [List.getElem?_set_ne hii] at he'
                have := h7 i' j' e' c' he' hj'
                have hl' := h5 e' (List.mem_of_getElem? he')
                have hjl := (List.getElem?_eq_some_iff.1 hj').1
                refine ⟨.inr ⟨fun hh => hii ?_, this.1⟩, this.2.1, fun hcl => this.2.2 ?_⟩
                · simp only [Array.length_toList, z1] at hh
                  have : (i * k.sz + (i' * k.sz + j' - i * k.sz)) = i' * k.sz + j' := by omega
                  exact (flat_inj (sz := k.sz) (by omega) (by omega) this).1
                · simp only [Bool.and_eq_true] at hcl
                  exact hcl.1
        · cases h
      · cases h
    · cases h
  · cases h
end Go.Ai

namespace Go.Ai
open Go Go.RowKit
variable {C : Cfg} {P : Program} {E : Env}

theorem upds1 (h : Nat → Option Blk) (b : Nat) (k : Blk) : updAll h [(b, k)] = upd h b (some k) := rfl

theorem frozen0 (n j : Nat) (_ : j < n) : ¬ ((0, 0) : Nat × Nat).1 ≤ j ∨ ¬ j < ((0, 0) : Nat × Nat).2 := .inr (by simp)

/-- A block of one element, with a pointer to it. -/
theorem one_ok (G : Good C E) {site n : Nat} {hr : Nat → Option Blk} (H : HR hr E.h site) {cs : List V} {cl : Bool} {arr : Array Value} {el : TypeId} {s : Sem Value} (hn : cs.length = n) (ha : arr.size = n)
    (hok : cs.all cellOk = true) (hcl : cl = true → cs.all clo0 = true) (hx : ∀ (j : Nat) c, cs[j]? = some c → VR E c (arr.getD j undef))
    (hrun : s.run P E.w = .ok (.pointer (some ⟨E.w.heap.size, 0, none⟩)) (E.w.alloc (.cells arr el))) :
    Does C P E s (.ptr (newId site 0) (nextVer hr (newId site 0)) 0 0, [mk hr (newId site 0) n cl [cs]]) := by
  have F := G.fresh (newId site 0) (newId_even _ _) { ver := nextVer hr (newId site 0), sz := n, wr := true, cl := cl, es := [cs] } H.next rfl (E.w.alloc (.cells arr el)) arr el (0, 0) rfl rfl rfl rfl
    (fun j _ => by simp) (fun e he => by simp at he; subst he; exact hn) (by simp [ha]) (fun i j e c he hj => by
      cases i with
      | succ i => simp at he
      | zero =>
        simp at he; subst he
        have hjl := (List.getElem?_eq_some_iff.1 hj).1
        refine ⟨⟨arr.getD j undef, ?_, hx j c hj⟩, List.all_eq_true.1 hok _ (List.mem_of_getElem? hj), fun h => List.all_eq_true.1 (hcl h) _ (List.mem_of_getElem? hj)⟩
        have : j < arr.size := by omega
        simp [this])
  exact ⟨_, _, _, hrun, F.1, F.2, .ptr _ _ _ _ _ _ ⟨_, rfl⟩ (by simp [updAll, mk, upd]; rfl) (Nat.le_refl _) (fun _ => ⟨_, _, by simp [upd]; exact ⟨rfl, rfl⟩, by simp⟩)⟩

theorem zeroT_some {T : TypeId} {z : Value} (h : zeroT P T = some z) : ∃ i, P.info? T = some i ∧ i.zero = some z := by
  unfold zeroT at h
  cases hi : P.info? T with
  | none => rw [hi] at h; cases h
  | some i => rw [hi] at h; exact ⟨i, rfl, h⟩
theorem run_zero {T : TypeId} {z : Value} (h : zeroT P T = some z) (w : World) : (zeroValue T).run P w = .ok z w := by
  obtain ⟨i, hi, hz⟩ := zeroT_some h
  simp [zeroValue, typeInfo, program, hi, hz, bind, Sem.bind, pure, Sem.run]
theorem zeroCs_some {T : TypeId} {cs : List V} (h : zeroCs P T = some cs) : ∃ z, zeroT P T = some z ∧ cs.length = z.cells.size ∧ (∀ (w : World) (I : Nat → Prop) (j : Nat) c, cs[j]? = some c → CR w I c (z.cells.getD j undef)) ∧ cs.all cellOk = true ∧ cs.all clo0 = true := by
  unfold zeroCs at h
  simp only [Option.bind_eq_some_iff] at h
  obtain ⟨z, hz, h⟩ := h
  unfold ofCells at h
  split at h
  · rename_i hok
    obtain rfl := Option.some.inj h
    refine ⟨z, hz, by simp, fun w I j c hj => ?_, hok, ?_⟩
    · rw [List.getElem?_map] at hj
      cases hx : z.cells[j]? with
      | none => simp [hx] at hj
      | some y =>
        simp [hx] at hj
        subst hj
        simp only [Array.getD_eq_getD_getElem?, hx, Option.getD_some]
        exact ofCell_cr w I y
    · rw [List.all_eq_true]
      intro c hc
      obtain ⟨y, _, rfl⟩ := List.mem_map.1 hc
      unfold ofCell; split <;> rfl
  · cases h

theorem alloc_ok (G : Good C E) {site : Nat} {T : TypeId} {r : V × List (Nat × Blk)} {hr : Nat → Option Blk} (H : HR hr E.h site) (h : effAlloc P site T hr = some r) :
    Does C P E (Instr.alloc T true (.tuple #[])) r := by
  unfold effAlloc at h
  split at h
  · rename_i n cs hn hz
    split at h
    · rename_i hc
      obtain rfl := Option.some.inj h
      obtain ⟨z, hz1, hz2, hz3, hz4, hz5⟩ := zeroCs_some hz
      refine one_ok G H (arr := z.cells) (el := T) hc (by omega) hz4 (fun _ => hz5) (fun j c hj => .clo (hz3 _ _ j c hj)) ?_
      unfold Instr.alloc
      simp only [Sem.run_bind, run_zero hz1, Result.andThen]
      simp [newVar, newRow, Result.andThen]
    · cases h
  · cases h

theorem box_ok (G : Good C E) {site : Nat} {T : TypeId} {v : V} {x : Value} {r : V × List (Nat × Blk)} {hr : Nat → Option Blk} (H : HR hr E.h site) (hv : VR E v x) (h : effBox P site T v hr = some r) :
    Does C P E (Instr.box T x) r := by
  unfold effBox at h
  split at h
  · rename_i n hn
    split at h
    · rename_i hc
      obtain rfl := Option.some.inj h
      obtain ⟨z1, z2, _⟩ := vcells_vr hv hc.2
      refine one_ok G H (arr := x.cells) (el := T) hc.1 (by omega) hc.2 (fun h => h) (fun j c hj => (z2 j c hj).1) ?_
      simp [Instr.box, newVar, newRow, Result.andThen]
    · cases h
  · cases h

theorem fill_ok {place : Nat → Option (Nat × Nat)} : ∀ {ps : List (Nat × V)} {qs : List (Nat × Value)} {cs rs : List V} {xs : Array Value},
    fillV place cs ps = some rs → ps.length = qs.length → (∀ (n : Nat) p q, ps[n]? = some p → qs[n]? = some q → p.1 = q.1 ∧ VR E p.2 q.2) → xs.size = cs.length → (∀ (j : Nat) c, cs[j]? = some c → VR E c (xs.getD j undef)) → cs.all cellOk = true →
    ∃ ys, Instr.fill place xs qs = some ys ∧ ys.size = rs.length ∧ rs.length = cs.length ∧ (∀ (j : Nat) c, rs[j]? = some c → VR E c (ys.getD j undef)) ∧ rs.all cellOk = true ∧ ((cs.all clo0 && ps.all fun p => (vcells p.2).all clo0) = true → rs.all clo0 = true)
  | [], qs, cs, rs, xs, h, hl, _, hs, hx, hok => by
    have : qs = [] := List.eq_nil_of_length_eq_zero (by simpa using hl.symm)
    subst this
    simp [fillV] at h; subst h
    exact ⟨xs, rfl, hs, rfl, hx, hok, fun h => by simpa using h⟩
  | (i, v) :: ps, qs, cs, rs, xs, h, hl, hr, hs, hx, hok => by
    cases qs with
    | nil => simp at hl
    | cons q qs =>
      obtain ⟨i', y⟩ := q
      obtain ⟨e, hv⟩ := hr 0 _ _ rfl rfl
      simp only at e hv
      subst e
      simp only [fillV] at h
      split at h
      · cases h
      · rename_i off size hp
        split at h
        · rename_i hc
          obtain ⟨c1, c2, c3⟩ := hc
          obtain ⟨z1, z2, _⟩ := vcells_vr hv c3
          have hfold : ∀ (l : List Value) (o : Nat) (A : Array Value), (l.zipIdx o).foldl (fun cs (c, j) => cs.setIfInBounds (off + j) c) A = (l.zipIdx o).foldl (fun cs (c, j) => cs.setIfInBounds (off + j) c) A := fun _ _ _ => rfl
          have hset : ∀ (l : List Value) (o : Nat) (A : Array Value), ((l.zipIdx o).foldl (fun cs (p : Value × Nat) => cs.setIfInBounds (off + p.2) p.1) A).size = A.size ∧
              ∀ j, ((l.zipIdx o).foldl (fun cs (p : Value × Nat) => cs.setIfInBounds (off + p.2) p.1) A)[j]? = if off + o ≤ j ∧ j < off + o + l.length ∧ j < A.size then l[j - (off + o)]? else A[j]? := by
            intro l
            induction l with
            | nil => intro o A; refine ⟨rfl, fun j => ?_⟩; simp only [List.zipIdx_nil, List.foldl_nil, List.length_nil]; rw [if_neg (by omega)]
            | cons c l ih =>
              intro o A
              simp only [List.zipIdx_cons, List.foldl_cons]
              obtain ⟨h1, h2⟩ := ih (o + 1) (A.setIfInBounds (off + o) c)
              refine ⟨by rw [h1]; simp, fun j => ?_⟩
              rw [h2 j]
              simp only [Array.size_setIfInBounds, List.length_cons]
              by_cases hj : j = off + o
              · subst hj
                rw [if_neg (by omega)]
                by_cases hlt : off + o < A.size
                · rw [if_pos ⟨by omega, by omega, hlt⟩]
                  simp [hlt]
                · rw [if_neg (by omega)]
                  rw [Array.getElem?_eq_none (by simp; omega), Array.getElem?_eq_none (by omega)]
              · rw [Array.getElem?_setIfInBounds_ne (by omega)]
                by_cases hc : off + (o + 1) ≤ j ∧ j < off + (o + 1) + l.length ∧ j < A.size
                · rw [if_pos hc, if_pos ⟨by omega, by omega, hc.2.2⟩]
                  rw [show j - (off + o) = (j - (off + (o + 1))) + 1 by omega]; rfl
                · rw [if_neg hc, if_neg (by omega)]
          have hcs : y.cells.size = size := by omega
          obtain ⟨k1, k2⟩ := hset y.cells.toList 0 xs
          have hsp : (splice cs off (vcells v)).length = cs.length := splice_length (by omega)
          have hget : ∀ j, (splice cs off (vcells v))[j]? = if off ≤ j ∧ j < off + (vcells v).length then (vcells v)[j - off]? else cs[j]? := splice_get cs (vcells v) off (by omega)
          have hok' : (splice cs off (vcells v)).all cellOk = true := by
            rw [List.all_eq_true] at hok c3 ⊢
            intro c hcm
            obtain ⟨j, hj⟩ := List.getElem?_of_mem hcm
            rw [hget j] at hj
            split at hj
            · exact c3 _ (List.mem_of_getElem? hj)
            · exact hok _ (List.mem_of_getElem? hj)
          have ih := fill_ok (qs := qs) (xs := (y.cells.toList.zipIdx).foldl (fun cs (p : Value × Nat) => cs.setIfInBounds (off + p.2) p.1) xs) h (by simpa using hl) (fun n p q h1 h2 => hr (n + 1) p q (by simpa using h1) (by simpa using h2)) (by rw [k1, hsp]; exact hs)
            (fun j c hj => by
              rw [hget j] at hj
              rw [Array.getD_eq_getD_getElem?, k2 j]
              simp only [Nat.add_zero, Array.length_toList]
              split at hj
              · rename_i hj2
                have hjl : j < cs.length := by omega
                rw [if_pos ⟨hj2.1, by omega, by omega⟩]
                have := (z2 _ _ hj).1
                simpa [Array.getD_eq_getD_getElem?] using this
              · rename_i hj2
                rw [if_neg (by omega)]
                have := hx j c hj
                rwa [Array.getD_eq_getD_getElem?] at this) hok'
          obtain ⟨ys, h1, h2, h3, h4, h5, h6⟩ := ih
          refine ⟨ys, ?_, h2, by omega, h4, h5, fun hcl => h6 ?_⟩
          · simp only [Instr.fill, hp]
            rw [if_neg (by simp; omega)]
            rw [← h1]
            congr 1
            rw [← Array.foldl_toList]
            congr 1
            simp
          · simp only [List.all_cons, Bool.and_eq_true] at hcl
            obtain ⟨q1, q2, q3⟩ := hcl
            rw [Bool.and_eq_true]
            refine ⟨?_, q3⟩
            rw [List.all_eq_true] at q1 q2 ⊢
            intro c hcm
            obtain ⟨j, hj⟩ := List.getElem?_of_mem hcm
            rw [hget j] at hj
            split at hj
            · exact q2 _ (List.mem_of_getElem? hj)
            · exact q1 _ (List.mem_of_getElem? hj)
        · cases h
end Go.Ai

namespace Go.Ai
open Go Go.RowKit
variable {C : Cfg} {P : Program} {E : Env}

/-- the operands of a literal: as the interpreter sees them, as Go does -/
structure Parts (E : Env) (ps : Array (Nat × Operand)) (vs : List V) (qs : List (Nat × Value)) : Prop where
  len : vs.length = ps.size
  qlen : qs.length = ps.size
  rel : ∀ (n : Nat) p v q, ps.toList[n]? = some p → vs[n]? = some v → qs[n]? = some q → p.1 = q.1 ∧ VR E v q.2

theorem Parts.zip {ps : Array (Nat × Operand)} {vs : List V} {qs : List (Nat × Value)} (h : Parts E ps vs qs) :
    ((ps.toList.map (·.1)).zip vs).length = qs.length ∧ ∀ (n : Nat) p q, ((ps.toList.map (·.1)).zip vs)[n]? = some p → qs[n]? = some q → p.1 = q.1 ∧ VR E p.2 q.2 := by
  refine ⟨by simp [h.len, h.qlen], fun n p q h1 h2 => ?_⟩
  obtain ⟨i, v⟩ := p
  rw [List.getElem?_zip_eq_some] at h1
  obtain ⟨h1, h3⟩ := h1
  rw [List.getElem?_map] at h1
  simp only [Option.map_eq_some_iff] at h1
  obtain ⟨p, hp, rfl⟩ := h1
  exact h.rel n p v q hp h3 h2

theorem build_ok {T : TypeId} {ps : Array (Nat × Operand)} {vs : List V} {qs : Array (Nat × Value)} {r : V × List (Nat × Blk)} (G : Good C E) (hp : Parts E ps vs qs.toList) (h : effBuild P T ps vs = some r) :
    Does C P E (Instr.build T qs) r := by
  unfold effBuild at h
  split at h
  · rename_i z pl hz hpl
    simp only [Option.map_eq_some_iff] at h
    obtain ⟨cs, hf, rfl⟩ := h
    obtain ⟨zv, hz1, hz2, hz3, hz4, hz5⟩ := zeroCs_some hz
    obtain ⟨hl, hrel⟩ := hp.zip
    obtain ⟨ys, h1, h2, h3, h4, h5, h6⟩ := fill_ok (E := E) (xs := zv.cells) hf hl hrel hz2.symm (fun j c hj => .clo (hz3 _ _ j c hj)) hz4
    refine Reads.does G ⟨.agg ys, run_build E.w T qs ys ?_, .agg _ _ h2 h4⟩
    unfold Program.built
    unfold placesL at hpl
    obtain ⟨it, hit, hzero⟩ := zeroT_some hz1
    split at hpl
    · rename_i fs hfs
      rw [hit, fieldsT_some hfs]
      simp only [hzero, hpl]
      exact h1
    · cases hpl
  · cases h

theorem flat_get {z : List V} {n : Nat} (hz : z.length = n) : ∀ (len j : Nat), j < len * n → (List.replicate len z).flatten[j]? = z[j % n]?
  | 0, j, h => by simp at h
  | len + 1, j, h => by
    rw [List.replicate_succ, List.flatten_cons]
    rw [Nat.add_mul, Nat.one_mul] at h
    by_cases hj : j < n
    · rw [List.getElem?_append_left (by omega), Nat.mod_eq_of_lt hj]
    · rw [List.getElem?_append_right (by omega), hz, flat_get hz len (j - n) (by omega), ← Nat.mod_eq_sub_mod (by omega)]

theorem flat_length {z : List V} {n : Nat} (hz : z.length = n) (len : Nat) : (List.replicate len z).flatten.length = len * n := by
  simp [List.length_flatten, hz]

theorem chunk_ok (sz : Nat) : ∀ (n : Nat) (l : List V), l.length = n * sz → (chunk sz n l).length = n ∧ (∀ e ∈ chunk sz n l, e.length = sz) ∧
    ∀ (i j : Nat) e c, (chunk sz n l)[i]? = some e → e[j]? = some c → l[i * sz + j]? = some c
  | 0, l, _ => by simp [chunk]
  | n + 1, l, h => by
    rw [Nat.add_mul, Nat.one_mul] at h
    obtain ⟨h1, h2, h3⟩ := chunk_ok sz n (l.drop sz) (by simp; omega)
    refine ⟨by simp [chunk, h1], fun e he => ?_, fun i j e c he hj => ?_⟩
    · simp only [chunk, List.mem_cons] at he
      rcases he with rfl | he
      · rw [List.length_take]; omega
      · exact h2 e he
    · cases i with
      | zero =>
        simp only [chunk, List.getElem?_cons_zero, Option.some.injEq] at he
        subst he
        rw [List.getElem?_take] at hj
        split at hj
        · simpa using hj
        · cases hj
      | succ i =>
        simp only [chunk, List.getElem?_cons_succ] at he
        have := h3 i j e c he hj
        rw [List.getElem?_drop] at this
        rw [← this]; congr 1; rw [Nat.add_mul]; omega

/-- A new block that a slice shows whole, or its head. -/
theorem row_ok (G : Good C E) {site sz len cap : Nat} {hr : Nat → Option Blk} (H : HR hr E.h site) {es : List (List V)} {cl : Bool} {arr : Array Value} {el : TypeId} {s : Sem Value} {w' : World} {fr : Nat × Nat}
    (hsz : ∀ e ∈ es, e.length = sz) (ha : es.length * sz ≤ arr.size) (hcap : cap * sz ≤ arr.size) (hlen : len ≤ cap)
    (hx : ∀ (i j : Nat) e c, es[i]? = some e → e[j]? = some c → (∃ x, arr[i * sz + j]? = some x ∧ VR E c x) ∧ cellOk c = true ∧ (cl = true → clo0 c = true))
    (hh : w'.heap = E.w.heap.push (.cells arr el fr)) (hos : w'.os = E.w.os) (ht : w'.tape = E.w.tape) (ho : w'.output = E.w.output) (hfr : ∀ j, j < arr.size → ¬ (fr.1 ≤ j ∧ j < fr.2))
    (hrun : s.run P E.w = .ok (.slice (some ⟨E.w.heap.size, 0, none⟩) len cap) w') :
    Does C P E s (.sl (newId site 0) (nextVer hr (newId site 0)) 0 len, [mk hr (newId site 0) sz cl es]) := by
  have F := G.fresh (newId site 0) (newId_even _ _) { ver := nextVer hr (newId site 0), sz := sz, wr := true, cl := cl, es := es } H.next rfl w' arr el fr hh hos ht ho hfr hsz ha hx
  refine ⟨_, _, _, hrun, F.1, F.2, .sl _ _ _ _ _ _ ⟨_, _, _, rfl⟩ (by simp [updAll, mk, upd]; rfl) (Nat.le_refl _) (fun _ => .inr ⟨E.w.heap.size, arr.size, cap, by simp [upd], by simp, by simpa using hcap, hlen⟩)⟩

theorem buildSlice_ok {site len : Nat} {T : TypeId} {ps : Array (Nat × Operand)} {vs : List V} {qs : Array (Nat × Value)} {r : V × List (Nat × Blk)} (G : Good C E) {hr : Nat → Option Blk} (H : HR hr E.h site) (hp : Parts E ps vs qs.toList)
    (h : effBuildSlice P site T len ps vs hr = some r) : Does C P E (Instr.buildSlice T len qs) r := by
  unfold effBuildSlice at h
  split at h
  · rename_i Et hE
    split at h
    · rename_i n z hn hz
      split at h
      · rename_i hc
        obtain ⟨c1, rfl, c3⟩ := hc
        obtain rfl := Option.some.inj h
        obtain ⟨ie, hie, hsz⟩ := sizeT_some hn
        have hq : qs.toList = [] := by
          have h1 := hp.qlen
          have h2 : ps.toList.length = 0 := by rw [c3]; rfl
          exact List.eq_nil_of_length_eq_zero (by rw [h1]; simpa using h2)
        refine row_ok G H (arr := #[]) (el := Et) (cap := 0) (es := []) (fr := (0, 0)) (w' := E.w.alloc (.cells #[] Et)) (fun e he => by simp at he) (by simp) (by simp) (Nat.le_refl _) (fun i j e c he => by simp at he) rfl rfl rfl rfl (fun j _ => by simp) ?_
        simp [Instr.buildSlice, run_und (elemT_some hE), sizeOf, typeInfo, hie, hq, newRow, Instr.fill]
        have e : (Array.range 0).map (fun _ => (default : Value)) = #[] := Array.ext' (by simp)
        exact congrArg (fun c => E.w.alloc (.cells c Et)) e
      split at h
      · rename_i hc
        obtain ⟨c1, c2, c3, c4⟩ := hc
        simp only [Option.map_eq_some_iff] at h
        obtain ⟨cs, hf, rfl⟩ := h
        obtain ⟨zv, hz1, hz2, hz3, hz4, hz5⟩ := zeroCs_some hz
        obtain ⟨ie, hie, hzero⟩ := zeroT_some hz1
        obtain ⟨ie', hie', hsz⟩ := sizeT_some hn
        rw [hie] at hie'; obtain rfl := Option.some.inj hie'
        subst hsz
        obtain ⟨hl, hrel⟩ := hp.zip
        have hzs : zv.cells.size = ie.size := by omega
        have hflen := flat_length c1 len
        have hall : ∀ (f : V → Bool), z.all f = true → (List.replicate len z).flatten.all f = true := by
          intro f hf
          rw [List.all_eq_true] at hf ⊢
          intro c hcm
          rw [List.mem_flatten] at hcm
          obtain ⟨l, hl, hcl⟩ := hcm
          rw [List.mem_replicate] at hl
          obtain ⟨_, rfl⟩ := hl
          exact hf c hcl
        obtain ⟨ys, h1, h2, h3, h4, h5, h6⟩ := fill_ok (E := E) (xs := (Array.range (len * ie.size)).map (zv.cells[· % zv.cells.size]!)) hf hl hrel (by simp [hflen]) (fun j c hj => by
          have hjl := (List.getElem?_eq_some_iff.1 hj).1
          rw [hflen] at hjl
          rw [flat_get c1 len j hjl] at hj
          have := hz3 E.w E.I (j % ie.size) c hj
          have hmod : j % ie.size < zv.cells.size := by rw [hzs]; exact Nat.mod_lt _ c2
          simp only [Array.getD_eq_getD_getElem?, Array.getElem?_eq_getElem hmod, Option.getD_some] at this
          have e : ((Array.range (len * ie.size)).map (zv.cells[· % zv.cells.size]!)).getD j undef = zv.cells[j % ie.size] := by
            have h2 : zv.cells[j % ie.size]! = zv.cells[j % ie.size] := getElem!_pos zv.cells (j % ie.size) hmod
            rw [← h2]
            simp [Array.getD, hjl, hzs]
          rw [e]; exact .clo this) (hall _ hz4)
        obtain ⟨k1, k2, k3⟩ := chunk_ok ie.size len cs (by rw [h3, hflen])
        have hmul : 0 < len * ie.size := Nat.mul_pos c3 c2
        refine row_ok G H (arr := ys) (el := Et) (cap := len) (fr := (0, 0)) (w' := E.w.alloc (.cells ys Et)) k2 (by rw [k1, h2, h3, hflen]; exact Nat.le_refl _) (by rw [h2, h3, hflen]; exact Nat.le_refl _) (Nat.le_refl _) (fun i j e c he hj => ?_) rfl rfl rfl rfl (fun j _ => by simp)
          (run_buildSlice E.w T Et len qs ys ie zv (elemT_some hE) hie hzero (by omega) (by omega) h1)
        have hcs := k3 i j e c he hj
        have hlt := (List.getElem?_eq_some_iff.1 hcs).1
        refine ⟨⟨ys.getD (i * ie.size + j) undef, ?_, h4 _ c hcs⟩, List.all_eq_true.1 h5 _ (List.mem_of_getElem? hcs), fun hcl => ?_⟩
        · have : i * ie.size + j < ys.size := by omega
          simp [Array.getD, this]
        · refine List.all_eq_true.1 (h6 ?_) _ (List.mem_of_getElem? hcs)
          rw [Bool.and_eq_true]
          refine ⟨hall _ hz5, ?_⟩
          rw [List.all_eq_true] at hcl ⊢
          intro p hpm
          exact hcl p.2 (List.of_mem_zip (a := p.1) (b := p.2) (by simpa using hpm)).2
      · cases h
    · cases h
  · cases h
end Go.Ai

namespace Go.Ai
open Go Go.RowKit
variable {C : Cfg} {P : Program} {E : Env}

theorem ofValue_vr (x : Value) : VR E (ofValue x) x := .clo (ofValue_cr _ _ x)

theorem pr_reads {s : Sem Value} {v : Value} (h : pr P s = some v) : Reads P E s (ofValue v) := ⟨v, pr_run h _, ofValue_vr v⟩

theorem vr_isl {sz : Nat} {es : List (List V)} {x : Value} (h : VR E (.isl sz es) x) : ∃ a cap, x = .slice a es.length cap ∧ es.length ≤ cap ∧ (∀ e ∈ es, e.length = sz) ∧ (∀ e ∈ es, ∀ c ∈ e, cellOk c = true ∧ clo0 c = true) ∧
    (es ≠ [] → ∃ b o, a = some ⟨b, o, none⟩ ∧ E.I b ∧ ∀ (i : Nat) e, es[i]? = some e → At E b (o + i * sz) e) := by
  cases h with
  | clo h => cases h with
    | isl _ _ a cap vals hc hl hk ha h1 h2 =>
      refine ⟨a, cap, rfl, hc, hl, hk, fun hne => ?_⟩
      obtain ⟨b, o, rfl, hI⟩ := ha hne
      refine ⟨b, o, rfl, hI, fun i e he j c hj => ⟨vals i j, ?_, .clo (h2 i j e c he hj)⟩⟩
      have := h1 i j e c he hj _ rfl
      simpa [Nat.add_assoc] using this

/-- an operand that is written in the code is what is written -/
def NilIs (y : Operand) (v : Value) : Prop := ∀ u, y = .const u → v = u

theorem nil_ok {o : BinOp} {T : TypeId} {x y : Operand} {a r : V} {u v : Value} (ha : VR E a u) (hb : NilIs y v) (h : effNil P o T y a = some r) :
    Reads P E (do eqGuard o T x y u v; binOp o T u v) r := by
  unfold effNil at h
  split at h
  · rename_i e sz e0 es hu
    obtain rfl := Option.some.inj h
    obtain ⟨a, cap, rfl, hcap, hl, hk, ha⟩ := vr_isl ha
    obtain ⟨g, o, rfl, _⟩ := ha (by simp)
    obtain rfl := hb _ rfl
    have hq := run_equal_slice_nil E.w T e (some ⟨g, o, none⟩) (es.length + 1) cap hu
    exact ⟨.bool false, by simp [eqGuard, binOp]; rw [hq]; rfl, .clo (.val _)⟩
  · rename_i e sz e0 es hu
    obtain rfl := Option.some.inj h
    obtain ⟨a, cap, rfl, hcap, hl, hk, ha⟩ := vr_isl ha
    obtain ⟨g, o, rfl, _⟩ := ha (by simp)
    obtain rfl := hb _ rfl
    have hq := run_equal_slice_nil E.w T e (some ⟨g, o, none⟩) (es.length + 1) cap hu
    exact ⟨.bool true, by simp [eqGuard, binOp]; rw [hq]; rfl, .clo (.val _)⟩
  · cases h

theorem bin_ok {o : BinOp} {T : TypeId} {x y : Operand} {a b r : V} {u v : Value} (ha : VR E a u) (hb : VR E b v) (hn : NilIs y v) (h : effBin P o T x y a b = some r) :
    Reads P E (do eqGuard o T x y u v; binOp o T u v) r := by
  unfold effBin at h
  split at h
  · rename_i u' v' h1 h2
    simp only [Option.map_eq_some_iff] at h
    obtain ⟨z, hz, rfl⟩ := h
    obtain rfl := toVal_vr ha h1
    obtain rfl := toVal_vr hb h2
    exact pr_reads hz
  · exact nil_ok ha hn h

theorem un_ok {o : UnOp} {v u : Value} {r : V} (ha : VR E (.val v) u) (h : (pr P (Op.unary o v)).map ofValue = some r) : Reads P E (Op.unary o u) r := by
  simp only [Option.map_eq_some_iff] at h
  obtain ⟨z, hz, rfl⟩ := h
  obtain rfl := val_vr ha
  exact pr_reads hz

theorem part_ok {T : TypeId} {cs : List V} {xs : Array Value} {off : Nat} {r : V} (hs : xs.size = cs.length) (hx : ∀ (j : Nat) c, cs[j]? = some c → VR E c (xs.getD j undef)) (h : partV P T (cs.drop off) = some r) :
    Reads P E (part T xs off) r := by
  unfold partV at h
  split at h
  · rename_i d n hd hn
    unfold part Reads
    simp only [Sem.run_bind, run_isAgg hd, Result.andThen]
    split at h
    · rename_i ha
      split at h
      · rename_i hle
        cases h
        rw [List.length_drop] at hle
        refine ⟨.agg (xs.extract off (off + n)), by simp [ha, run_size hn], .agg _ _ (by simp; omega) (fun j c hj => ?_)⟩
        rw [List.getElem?_take] at hj
        split at hj
        · rename_i hjn
          rw [List.getElem?_drop] at hj
          have := hx _ c hj
          have hjl := (List.getElem?_eq_some_iff.1 hj).1
          have e : (xs.extract off (off + n)).getD j undef = xs.getD (off + j) undef := by
            have h1 : j < min (off + n) xs.size - off := by omega
            have h2 : off + j < xs.size := by omega
            simp [Array.getD, h1, h2]
          rw [e]; exact this
        · cases hj
      · cases h
    · rename_i ha
      rw [List.head?_drop] at h
      have := hx _ r h
      have hjl := (List.getElem?_eq_some_iff.1 h).1
      have hlt : off < xs.size := by omega
      refine ⟨xs[off], ?_, by simpa [Array.getD, hlt] using this⟩
      simp [ha, hlt]
  · cases h

theorem field_ok {T : TypeId} {f : Nat} {v r : V} {x : Value} (hv : VR E v x) (h : effField P T f v = some r) : Reads P E (Instr.field T x f) r := by
  unfold effField at h
  split at h
  · rename_i cs
    obtain ⟨xs, rfl, hs, hx⟩ := vr_agg hv
    split at h
    · rename_i fs hfs
      split at h
      · rename_i fd hfd
        obtain ⟨y, h1, h2⟩ := part_ok (E := E) hs hx h
        refine ⟨y, ?_, h2⟩
        have hu := fieldsT_some hfs
        simp only [Instr.field, Sem.run_bind, run_und hu, Result.andThen, hfd]
        simpa [asAgg] using h1
      · cases h
    · cases h
  · cases h

theorem mk_ipt {b o : Nat} {cs : List V} (h : At E b o cs) (hok : ∀ c ∈ cs, cellOk c = true ∧ clo0 c = true) (hI : cs ≠ [] → E.I b) : VR E (.ipt cs) (.pointer (some ⟨b, o, none⟩)) := by
  have key : ∀ (j : Nat) c, cs[j]? = some c → E.w.cell? ⟨b, o + j, none⟩ = some ((E.w.cell? ⟨b, o + j, none⟩).getD undef) ∧ CR E.w E.I c ((E.w.cell? ⟨b, o + j, none⟩).getD undef) := by
    intro j c hj
    obtain ⟨x, h1, h2⟩ := h j c hj
    rw [h1]
    exact ⟨rfl, clo0_cr h2 (hok c (List.mem_of_getElem? hj)).2⟩
  exact .ipt cs b o (fun j => (E.w.cell? ⟨b, o + j, none⟩).getD undef) hI hok (fun j c hj => (key j c hj).1) (fun j c hj => (key j c hj).2)

theorem add_lit (b o n : Nat) : (⟨b, o, none⟩ : Addr).add n = ⟨b, o + n, none⟩ := by
  unfold Addr.add; by_cases h : n = 0 <;> simp [h]

theorem fieldAddr_ok {T : TypeId} {f : Nat} {v r : V} {x : Value} {hr : Nat → Option Blk} {site : Nat} (H : HR hr E.h site) (hv : VR E v x) (h : effFieldAddr P T f v hr = some r) : Reads P E (Instr.fieldAt T x f) r := by
  unfold effFieldAddr at h
  split at h
  · rename_i fs hfs
    split at h
    · rename_i fd hfd
      split at h
      · rename_i n hn
        have hu := fieldsT_some hfs
        have hrun : ∀ a : Addr, (Instr.fieldAt T (.pointer (some a)) f).run P E.w = .ok (.pointer (some (a.add fd.offset))) E.w := by
          intro a
          simp [Instr.fieldAt, run_und hu, hfd, Instr.sureAddr, fieldPlace, run_size hn]
        split at h
        · rename_i b ver i off
          simp only [Option.map_eq_some_iff] at h
          obtain ⟨k, hk, rfl⟩ := h
          obtain ⟨hk1, hk2⟩ := H.live hk
          obtain ⟨g, c, hρ, rfl⟩ := vr_ptr hv hk1 hk2
          refine ⟨_, hrun _, .ptr _ _ _ _ _ k ⟨_, rfl⟩ hk1 (by omega) (fun _ => ⟨g, c, hρ, ?_⟩)⟩
          rw [add_lit, Nat.add_assoc]
        · rename_i cs
          obtain rfl := Option.some.inj h
          obtain ⟨b, o, rfl, hat, hok, hI⟩ := vr_ipt hv
          refine ⟨_, hrun _, ?_⟩
          rw [add_lit]
          exact mk_ipt (hat.drop fd.offset) (fun c hc => hok c (List.mem_of_mem_drop hc)) (fun h => hI (fun e => h (by simp [e])))
        · cases h
      · cases h
    · cases h
  · cases h

theorem natOf_some {v : V} {n : Nat} {x : Value} (hv : VR E v x) (h : natOf v = some n) : ∃ k, x = .int k (n : Int) := by
  unfold natOf at h
  split at h
  · rename_i k m
    split at h
    · rename_i h0
      obtain rfl := val_vr hv
      obtain rfl := Option.some.inj h
      exact ⟨k, by rw [Int.toNat_of_nonneg h0]⟩
    · cases h
  · cases h

theorem mk_isl {sz cap : Nat} {es : List (List V)} {a : Option Addr} (hc : es.length ≤ cap) (hl : ∀ e ∈ es, e.length = sz) (hk : ∀ e ∈ es, ∀ c ∈ e, cellOk c = true ∧ clo0 c = true)
    (h : es ≠ [] → ∃ b o, a = some ⟨b, o, none⟩ ∧ E.I b ∧ ∀ (i : Nat) e, es[i]? = some e → At E b (o + i * sz) e) : CR E.w E.I (.isl sz es) (.slice a es.length cap) := by
  have key : ∀ (i j : Nat) e c, es[i]? = some e → e[j]? = some c → ∃ b o, a = some ⟨b, o, none⟩ ∧ E.w.cell? ⟨b, o + (i * sz + j), none⟩ = some ((a.bind fun a => E.w.cell? ⟨a.block, a.off + (i * sz + j), none⟩).getD undef) ∧
      CR E.w E.I c ((a.bind fun a => E.w.cell? ⟨a.block, a.off + (i * sz + j), none⟩).getD undef) := by
    intro i j e c he hj
    obtain ⟨b, o, rfl, _, hat⟩ := h (fun e0 => by subst e0; simp at he)
    obtain ⟨x, h1, h2⟩ := hat i e he j c hj
    rw [Nat.add_assoc] at h1
    refine ⟨b, o, rfl, ?_⟩
    simp only [Option.bind_some, h1, Option.getD_some, true_and]
    exact clo0_cr h2 (hk e (List.mem_of_getElem? he) c (List.mem_of_getElem? hj)).2
  refine .isl sz es a cap (fun i j => (a.bind fun a => E.w.cell? ⟨a.block, a.off + (i * sz + j), none⟩).getD undef) hc hl hk (fun hne => ?_) (fun i j e c he hj ad had => ?_) (fun i j e c he hj => ?_)
  · obtain ⟨b, o, h1, h2, _⟩ := h hne; exact ⟨b, o, h1, h2⟩
  · obtain ⟨b, o, h1, h2, _⟩ := key i j e c he hj
    rw [h1] at had; obtain rfl := Option.some.inj had
    exact h2
  · obtain ⟨_, _, _, _, h3⟩ := key i j e c he hj; exact h3

theorem vr_sl {b ver off len : Nat} {x : Value} (h : VR E (.sl b ver off len) x) {k : Blk} (hk : E.h b = some k) (hv : k.ver = ver) :
    (E.ρ b = none ∧ off = 0 ∧ len = 0 ∧ ∃ a, x = .slice a 0 0) ∨
        ∃ g c cap, E.ρ b = some (g, c) ∧ x = .slice (some ⟨g, off * k.sz, none⟩) len cap ∧ (off + cap) * k.sz ≤ c ∧ len ≤ cap := by
  cases h with
  | clo h => cases h
  | sl _ _ _ _ _ k' _ hk' hv' hx =>
    rw [hk] at hk'
    obtain rfl := Option.some.inj hk'
    exact hx hv.symm

theorem ixAddr_ok {T : TypeId} {v ix r : V} {x y : Value} {hr : Nat → Option Blk} {site : Nat} (H : HR hr E.h site) (hv : VR E v x) (hi : VR E ix y) (h : effIxAddr P T v ix hr = some r) : Reads P E (Instr.indexAt T x y) r := by
  unfold effIxAddr at h
  split at h
  · rename_i Et n hE hn
    obtain ⟨ky, rfl⟩ := natOf_some hi hn
    have hu := elemT_some hE
    split at h
    · rename_i sz hsz
      have hrun : ∀ (a : Addr) (len cap : Nat), n < len → (Instr.indexAt T (.slice (some a) len cap) (.int ky n)).run P E.w = .ok (.pointer (some (a.add (n * sz)))) E.w := by
        intro a len cap hlt
        have h1 : (0 : Int) ≤ (n : Int) ∧ (n : Int) < (len : Int) := ⟨by omega, by omega⟩
        simp [Instr.indexAt, run_und hu, asIntOf, run_size hsz, hlt]
      split at h
      · rename_i sz' es
        split at h
        · rename_i hs
          subst hs
          simp only [Option.map_eq_some_iff] at h
          obtain ⟨e, he, rfl⟩ := h
          have hlt := (List.getElem?_eq_some_iff.1 he).1
          obtain ⟨a, cap, rfl, hc, hl, hk, ha⟩ := vr_isl hv
          obtain ⟨b, o, rfl, hI, hat⟩ := ha (fun e0 => by subst e0; simp at he)
          refine ⟨_, hrun _ _ _ hlt, ?_⟩
          rw [add_lit]
          exact mk_ipt (hat n e he) (hk e (List.mem_of_getElem? he)) (fun _ => hI)
        · cases h
      · rename_i b ver off len
        split at h
        · rename_i k hk
          split at h
          · rename_i hc
            obtain rfl := Option.some.inj h
            obtain ⟨hk1, hk2⟩ := H.live hk
            rcases vr_sl hv hk1 hk2 with ⟨_, _, h0, _⟩ | ⟨g, c, cap, hρ, rfl, hcap, hlen⟩
            · omega
            · refine ⟨_, hrun _ _ _ hc.2.1, .ptr _ _ _ _ _ k ⟨_, rfl⟩ hk1 (by omega) (fun _ => ⟨g, c, hρ, ?_⟩)⟩
              rw [add_lit, ← hc.1, Nat.add_mul]; rfl
          · cases h
        · cases h
      · cases h
    · cases h
  · cases h

theorem index_ok {T : TypeId} {v ix r : V} {x y : Value} (hv : VR E v x) (hi : VR E ix y) (h : effIndex P T v ix = some r) : Reads P E (Instr.index T x y) r := by
  unfold effIndex at h
  split at h
  · rename_i s
    obtain rfl := val_vr hv
    split at h
    · rename_i n hu hn
      obtain ⟨ky, rfl⟩ := natOf_some hi hn
      simp only [Option.map_eq_some_iff] at h
      obtain ⟨b, hb, rfl⟩ := h
      have h1 : (0 : Int) ≤ (n : Int) := by omega
      refine ⟨.int .u8 b.toNat, ?_, .clo (.val _)⟩
      simp [Instr.index, run_und hu, asIntOf, hb]
    · cases h
  · cases h

theorem len_ok {T : TypeId} {ty : TypeId} {ats : Array TypeId} {v r : V} {x : Value} {hr : Nat → Option Blk} {site : Nat} (H : HR hr E.h site) (ha : ats[0]? = some T) (hv : VR E v x) (h : effLen P (some T) v hr = some r) :
    Reads P E (Builtin.len_ ats ty #[x]) r := by
  unfold effLen at h
  simp only [Option.bind_some] at h
  split at h
  · rename_i hu
    split at h
    · rename_i s
      obtain rfl := val_vr hv
      obtain rfl := Option.some.inj h
      exact ⟨_, by simp [Builtin.len_, ha, run_und hu, goInt], .clo (.val _)⟩
    · cases h
  · rename_i e hu
    split at h
    · obtain rfl := Option.some.inj h
      cases hv with
      | clo h => cases h with
        | emp a => exact ⟨_, by simp [Builtin.len_, ha, run_und hu, goInt], .clo (.val _)⟩
    · rename_i sz es
      obtain rfl := Option.some.inj h
      obtain ⟨a, cap, rfl, _⟩ := vr_isl hv
      exact ⟨_, by simp [Builtin.len_, ha, run_und hu, goInt], .clo (.val _)⟩
    · rename_i b ver off len
      simp only [Option.map_eq_some_iff] at h
      obtain ⟨k, hk, rfl⟩ := h
      obtain ⟨hk1, hk2⟩ := H.live hk
      rcases vr_sl hv hk1 hk2 with ⟨_, _, rfl, a, rfl⟩ | ⟨g, c, cap, hρ, rfl, hcap, hlen⟩
      · exact ⟨_, by simp [Builtin.len_, ha, run_und hu, goInt], .clo (.val _)⟩
      · exact ⟨_, by simp [Builtin.len_, ha, run_und hu, goInt], .clo (.val _)⟩
    · cases h
  · cases h

theorem cap_ok {T : TypeId} {ty : TypeId} {ats : Array TypeId} {v r : V} {x : Value} (ha : ats[0]? = some T) (hv : VR E v x) (h : effCap P (some T) v = some r) :
    Reads P E (Builtin.cap_ ats ty #[x]) r := by
  unfold effCap at h
  simp only [Option.bind_some] at h
  split at h
  · rename_i e hu
    split at h
    · obtain rfl := Option.some.inj h
      cases hv with
      | clo h => cases h with
        | emp a => exact ⟨_, by simp [Builtin.cap_, ha, run_und hu, goInt], .clo (.val _)⟩
    · cases h
  · cases h
end Go.Ai

namespace Go.Ai
open Go Go.RowKit
variable {C : Cfg} {P : Program} {E : Env}

/-- What a slice shows, in memory. -/
theorem seen_ok (G : Good C E) {sz : Nat} {v : V} {x : Value} {es : List (List V)} {cl : Bool} {hr : Nat → Option Blk} {site : Nat} (H : HR hr E.h site) (hv : VR E v x) (h : seen hr sz v = some (es, cl)) :
    ∃ a cap, x = .slice a es.length cap ∧ es.length ≤ cap ∧ (∀ e ∈ es, e.length = sz) ∧ (∀ e ∈ es, ∀ c ∈ e, cellOk c = true ∧ (cl = true → clo0 c = true)) ∧
    (es ≠ [] → ∃ b o, a = some ⟨b, o, none⟩ ∧ ∀ (i : Nat) e, es[i]? = some e → At E b (o + i * sz) e) := by
  unfold seen at h
  split at h
  · obtain ⟨rfl, rfl⟩ := Prod.mk.inj (Option.some.inj h)
    cases hv with
    | clo h => cases h with
      | emp a => exact ⟨a, 0, rfl, Nat.le_refl _, fun e he => by simp at he, fun e he => by simp at he, fun h => absurd rfl h⟩
  · rename_i sz' es'
    split at h
    · rename_i hs
      subst hs
      obtain ⟨rfl, rfl⟩ := Prod.mk.inj (Option.some.inj h)
      obtain ⟨a, cap, rfl, h1, h2, h3, h4⟩ := vr_isl hv
      exact ⟨a, cap, rfl, h1, h2, fun e he c hc => ⟨(h3 e he c hc).1, fun _ => (h3 e he c hc).2⟩, fun hne => by obtain ⟨b, o, h5, _, h6⟩ := h4 hne; exact ⟨b, o, h5, h6⟩⟩
    · cases h
  · rename_i b ver off len
    split at h
    · rename_i k hk
      split at h
      · rename_i hc
        obtain ⟨hs, hle⟩ := hc
        obtain ⟨rfl, rfl⟩ := Prod.mk.inj (Option.some.inj h)
        obtain ⟨hk1, hk2⟩ := H.live hk
        have hB := G.blk b k hk1
        have hlen : ((k.es.drop off).take len).length = len := by rw [List.length_take, List.length_drop]; omega
        rcases vr_sl hv hk1 hk2 with ⟨h0, _, rfl, a, rfl⟩ | ⟨g, c, cap, hρ, rfl, hcap, hlen'⟩
        · refine ⟨a, 0, by simp, by simp, fun e he => by simp at he, fun e he => by simp at he, fun h => absurd (by simp) h⟩
        · rcases hB with ⟨h0, _⟩ | ⟨g', cap', h1, h2, h3, h4, h5, h6, h7, h8, h9⟩
          · rw [h0] at hρ; cases hρ
          rw [h1] at hρ; obtain ⟨rfl, rfl⟩ := Prod.mk.inj (Option.some.inj hρ)
          have hmem : ∀ e ∈ (k.es.drop off).take len, e ∈ k.es := fun e he => List.mem_of_mem_drop (List.mem_of_mem_take he)
          refine ⟨some ⟨g', off * k.sz, none⟩, cap, by rw [hlen], by rw [hlen]; exact hlen', fun e he => by rw [← hs]; exact h5 e (hmem e he), fun e he c hc => ?_, fun _ => ⟨g', off * k.sz, rfl, fun i e he => ?_⟩⟩
          · obtain ⟨i, hi⟩ := List.getElem?_of_mem (hmem e he)
            obtain ⟨j, hj⟩ := List.getElem?_of_mem hc
            have := h7 i j e c hi hj
            exact this.2
          · rw [List.getElem?_take] at he
            split at he
            · rw [List.getElem?_drop] at he
              intro j c hj
              have := (h7 _ _ _ _ he hj).1
              rw [← hs]
              rwa [Nat.add_mul] at this
            · cases he
      · cases h
    · cases h
  · cases h

theorem flat_at {b o sz : Nat} {es : List (List V)} (hl : ∀ e ∈ es, e.length = sz) (h : ∀ (i : Nat) e, es[i]? = some e → At E b (o + i * sz) e) : At E b o es.flatten := by
  induction es generalizing o with
  | nil => intro j c hj; simp at hj
  | cons e es ih =>
    intro j c hj
    rw [List.flatten_cons] at hj
    have he := hl e (by simp)
    by_cases hlt : j < e.length
    · rw [List.getElem?_append_left hlt] at hj
      have := h 0 e rfl j c hj
      simpa using this
    · rw [List.getElem?_append_right (by omega)] at hj
      have := ih (o := o + sz) (fun e he => hl e (by simp [he])) (fun i e' he' => by
        have := h (i + 1) e' (by simpa using he')
        rwa [Nat.add_mul, Nat.one_mul, Nat.add_comm (i * sz) sz, ← Nat.add_assoc] at this) (j - e.length) c hj
      rwa [show o + sz + (j - e.length) = o + j by omega] at this

theorem flatten_len {sz : Nat} {es : List (List V)} (hl : ∀ e ∈ es, e.length = sz) : es.flatten.length = es.length * sz := by
  induction es with
  | nil => simp
  | cons e es ih => simp [ih (fun e he => hl e (by simp [he])), hl e (by simp), Nat.add_mul]; omega

theorem flatten_get {sz : Nat} : ∀ {es : List (List V)} (_ : ∀ e ∈ es, e.length = sz) (i j : Nat) e, es[i]? = some e → j < sz → es.flatten[i * sz + j]? = e[j]?
  | [], _, i, j, e, he, _ => by simp at he
  | e0 :: es, hl, i, j, e, he, hj => by
    have h0 := hl e0 (by simp)
    rw [List.flatten_cons]
    cases i with
    | zero => simp at he; subst he; rw [Nat.zero_mul, Nat.zero_add, List.getElem?_append_left (by omega)]
    | succ i =>
      simp at he
      rw [Nat.add_mul, Nat.one_mul, List.getElem?_append_right (by omega), h0, show i * sz + sz + j - sz = i * sz + j by omega]
      exact flatten_get (fun e he => hl e (by simp [he])) i j e he hj

theorem mapM_byte : ∀ {es : List (List V)} {l : List UInt8}, es.mapM cellByte = some l → ∃ ns : List Int, es = ns.map (fun n => [V.val (.int .u8 n)]) ∧ l = ns.map (fun n => UInt8.ofNat n.toNat)
  | [], l, h => by simp at h; subst h; exact ⟨[], rfl, rfl⟩
  | e :: es, l, h => by
    simp only [List.mapM_cons, Option.bind_eq_bind, Option.bind_eq_some_iff, Option.pure_def, Option.some.injEq] at h
    obtain ⟨b, hb, l', hl', rfl⟩ := h
    obtain ⟨ns, h1, h2⟩ := mapM_byte hl'
    unfold cellByte at hb
    split at hb
    · rename_i n
      obtain rfl := Option.some.inj hb
      exact ⟨n :: ns, by simp [h1], by simp [h2]⟩
    · cases hb

theorem foldl_push (ns : List Int) (s : ByteArray) : (ns.foldl (fun r n => r.push (UInt8.ofNat n.toNat)) s) = ⟨(s.data.toList ++ ns.map fun n => UInt8.ofNat n.toNat).toArray⟩ := by
  induction ns generalizing s with
  | nil => simp
  | cons n ns ih => rw [List.foldl_cons, ih]; simp [ByteArray.push]

theorem bytes_get (s : ByteArray) (i j : Nat) (e : List V) (c : V) (he : (byteCells s)[i]? = some e) (hj : e[j]? = some c) : ∃ h : i < s.size, j = 0 ∧ c = .val (.int .u8 s[i].toNat) := by
  unfold byteCells at he
  rw [List.getElem?_map] at he
  simp only [Option.map_eq_some_iff] at he
  obtain ⟨b, hb, rfl⟩ := he
  obtain ⟨hl, hb'⟩ := List.getElem?_eq_some_iff.1 hb
  have hi : i < s.size := by simpa using hl
  refine ⟨hi, ?_⟩
  cases j with
  | zero =>
    simp only [List.getElem?_cons_zero, Option.some.injEq] at hj
    subst hj
    refine ⟨rfl, ?_⟩
    have : s[i] = b := by rw [← hb']; rfl
    rw [this]
  | succ j => simp at hj

theorem bytes_length (s : ByteArray) : (Ai.byteCells s).length = s.size := by
  unfold Ai.byteCells; simp

theorem conv_ok (G : Good C E) {site : Nat} {S T : TypeId} {v : V} {x : Value} {r : V × List (Nat × Blk)} {hr : Nat → Option Blk} (H : HR hr E.h site) (hv : VR E v x) (h : effConv P site S T v hr = some r) :
    Does C P E (convert S T x) r := by
  unfold effConv at h
  split at h
  · rename_i k n
    obtain rfl := val_vr hv
    split at h
    · rename_i d kd hs ht
      obtain rfl := Option.some.inj h
      exact Reads.does G ⟨_, by simp [convert, run_und hs, run_und ht, Conv.intToInt], .clo (.val _)⟩
    · rename_i d hs ht
      obtain rfl := Option.some.inj h
      exact Reads.does G ⟨_, by simp [convert, run_und hs, run_und ht, Conv.intToString], .clo (.val _)⟩
    · cases h
  · rename_i s
    obtain rfl := val_vr hv
    split at h
    · rename_i hs ht
      obtain rfl := Option.some.inj h
      exact Reads.does G ⟨_, by simp [convert, run_und hs, run_und ht], .clo (.val _)⟩
    · rename_i Et hs ht
      split at h
      · rename_i he hsz
        obtain rfl := Option.some.inj h
        have hge : s.size ≤ grownCap E.w s.size 0 Et := grownCap_ge _ _ _ _
        have hds : s.data.size = s.size := rfl
        have hsize : (bytesRow s (grownCap E.w s.size 0 Et)).size = grownCap E.w s.size 0 Et := by
          unfold bytesRow
          simp [hds]; omega
        refine row_ok G H (arr := bytesRow s (grownCap E.w s.size 0 Et)) (el := Et) (cap := grownCap E.w s.size 0 Et) (fr := ((bytesRow s (grownCap E.w s.size 0 Et)).size, (bytesRow s (grownCap E.w s.size 0 Et)).size + 1))
          (w' := E.w.drew.alloc (.cells (bytesRow s (grownCap E.w s.size 0 Et)) Et ((bytesRow s (grownCap E.w s.size 0 Et)).size, (bytesRow s (grownCap E.w s.size 0 Et)).size + 1)))
          (fun e he => ?_) (by rw [bytes_length, hsize]; omega) (by omega) hge (fun i j e c he hj => ?_) rfl rfl rfl rfl (fun j hj => by simp; omega) (run_bytes_of_string E.w S T Et s hs ht he)
        · unfold Ai.byteCells at he
          obtain ⟨b, _, rfl⟩ := List.mem_map.1 he; rfl
        · obtain ⟨hi, rfl, rfl⟩ := bytes_get s i j e c he hj
          refine ⟨⟨.int .u8 s[i].toNat, ?_, .clo (.val _)⟩, rfl, fun _ => rfl⟩
          unfold bytesRow
          rw [Nat.mul_one, Nat.add_zero, Array.getElem?_append_left (by simp [hds, hi]), Array.getElem?_map, Array.getElem?_eq_getElem (by rw [hds]; exact hi)]
          rfl
      · cases h
    · cases h
  · split at h
    · rename_i Et hS hT
      split at h
      · rename_i es cl he hseen
        simp only [Option.map_eq_some_iff] at h
        obtain ⟨l, hl, rfl⟩ := h
        obtain ⟨ns, rfl, rfl⟩ := mapM_byte hl
        obtain ⟨a, cap, rfl, h1, h2, h3, h4⟩ := seen_ok G H hv hseen
        refine Reads.does G ⟨.string ⟨(ns.map fun n => UInt8.ofNat n.toNat).toArray⟩, ?_, .clo (.val _)⟩
        rw [run_convert_bytes_string (P := P) E.w S T Et a _ cap (elemT_some hS) he hT]
        cases ha : a with
        | none =>
          have : ns = [] := by
            cases ns with
            | nil => rfl
            | cons n ns => obtain ⟨b, o, h, _⟩ := h4 (by simp); rw [ha] at h; cases h
          subst this
          simp [Conv.bytesToString]; rfl
        | some ad =>
          have hload : (loadCells ad (ns.map fun n => [V.val (.int .u8 n)]).length).run P E.w = .ok (ns.map (Value.int .u8)).toArray E.w := by
            have := run_loadCells_list (P := P) E.w ad (ns.map (Value.int .u8)) (fun j u hj => by
              have hlt := (List.getElem?_eq_some_iff.1 hj).1
              rw [List.length_map] at hlt
              obtain ⟨b, o, h, hat⟩ := h4 (by intro e; simp at e; subst e; simp at hlt)
              rw [ha] at h; obtain rfl := Option.some.inj h
              rw [List.getElem?_map] at hj
              simp only [Option.map_eq_some_iff] at hj
              obtain ⟨n, hn, rfl⟩ := hj
              obtain ⟨y, hy1, hy2⟩ := hat j [.val (.int .u8 n)] (by simp [hn]) 0 _ rfl
              obtain rfl := val_vr hy2
              rw [cell_add]; simpa using hy1)
            simpa using this
          rw [run_bytesToString E.w ad _ cap ns hload, foldl_push]
          simp
      · cases h
    · cases h
end Go.Ai
