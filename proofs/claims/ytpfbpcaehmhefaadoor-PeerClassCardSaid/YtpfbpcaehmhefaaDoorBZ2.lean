/- The engine, part 2: what one operation does to abstract values and named blocks. -/
import Derived.Test.YtpfbpcaehmhefaaDoorBZH
import Derived.Laws.StructEq
import Derived.Laws.CopyRow
import Derived.Laws.Tables
import Derived.Great.BuildSlice
import Derived.Orders
import Derived.Laws.BytesArg
import Derived.WalkSpells
import Derived.Lib.SliceRun
import Derived.Laws.FloatArith
import Derived.Laws.ComplexArith
namespace Go.Proofs.YtpfbpcaehmhefaaDoorB.Sx
open Go.RowKit
set_option linter.unusedSimpArgs false
set_option linter.unusedVariables false

/-! ### Pure operations: the model's own meaning, where it asks nothing of memory -/
def prun {α : Type} (P : Program) : Sem α → Option α
  | .pure a => some a
  | .program k => prun P (k P)
  | .mark _ k => prun P k
  | _ => none
theorem prun_run {α : Type} {P : Program} : ∀ {s : Sem α} {a : α}, prun P s = some a → ∀ w, s.run P w = .ok a w
  | .pure b, a, h, w => by simp only [prun, Option.some.injEq] at h; subst h; rfl
  | .program k, a, h, w => prun_run (s := k P) h w
  | .mark _ k, a, h, w => prun_run (s := k) h w
  | .load .., _, h, _ | .store .., _, h, _ | .new .., _, h, _ | .shape .., _, h, _ | .freeze .., _, h, _ | .frozen .., _, h, _ | .getObj .., _, h, _
  | .setObj .., _, h, _ | .choose .., _, h, _ | .sys .., _, h, _ | .halt _, _, h, _ => by simp [prun] at h
def allPlain (t : Operand → AV) : List Operand → Bool
  | [] => true
  | x :: r => (plain (t x)).isSome && allPlain t r
def noSel : Op → Bool
  | .select _ _ => false
  | _ => true
def effPure (P : Program) (o : Oper) (t : Operand → AV) : Option Eff :=
  bif noSel o.op && allPlain t o.op.operands.toList then
    match prun P (execOp (fun x => (plain (t x)).getD undef) o) with
    | some (.value V) => some { val := .v V }
    | _ => none
  else none

/-! ### The operations with rules of their own -/
abbrev Te := T (Option Eff)
abbrev Spec := List AV → (Nat → Option AB) → Nat → Te
structure Cx where
  P : Program
  K : FuncId → Option Spec
  ms : TypeId → Option Sh := fun _ => none
  gl : Nat → Option Nat := fun _ => none
  pl : FuncId → Plan := fun _ => .none
  nan : Bool := false
def one (e : Eff) : Te := .leaf (some e)
def no : Te := .leaf none
def isAggD : TypeDesc → Bool
  | .struct _ | .array _ _ => true
  | _ => false
/-- One of n: told apart one by one, if there are few. -/
def pickN {α : Type} (n : Nat) (j : Nat) (f : Nat → T (Option α)) : T (Option α) := bif Nat.ble n 64 then go 0 n else f j
where
  go (i : Nat) : Nat → T (Option α)
    | 0 => .leaf none
    | k + 1 => .ite (Nat.beq j i) (f i) (go (i + 1) k)
/-- Cells o to o + k are neither slices nor pointers. -/
def Sh.plainAt : Sh → Nat → Nat → Bool
  | _, _, 0 => true
  | .sc _ r, 0, k + 1 => r.plainAt 0 k
  | .sc _ r, o + 1, k + 1 => r.plainAt o (k + 1)
  | .sl _ _ _ r, o + 1, k + 1 => r.plainAt o (k + 1)
  | .pt _ _ _ r, o + 1, k + 1 => r.plainAt o (k + 1)
  | .po _ _ _ r, o + 1, k + 1 => r.plainAt o (k + 1)
  | .mp _ _ _ r, o + 1, k + 1 => r.plainAt o (k + 1)
  | _, _, _ => false
def Sh.flat (sh : Sh) : Bool := sh.plainAt 0 sh.size
def decF : (sh : Sh) → List AV → Option (Den sh)
  | .nil, [] => some ()
  | .sc c r, v :: vs => match (plain v).bind c.dec, decF r vs with | some x, some d => some (prMk r x d) | _, _ => none
  | _, _ => none
def getR {sh : Sh} (l : List (Den sh)) (r : Nat) : Den sh := l.getD r (dflt sh)
/-- 'k' cells from row r, cell o on. -/
def M.get (x : M) (r o k : Nat) : T (Option (List AV)) :=
  match x with
  | .raw _ s cs => pickN (cs.length / s) r fun r => .leaf (bif Nat.ble (r * s + o + k) cs.length then some ((cs.drop (r * s + o)).take k) else none)
  | .rows _ sh l => bif sh.plainAt o k then T.when (decide (r < l.length)) (.leaf (some (((encF sh (getR l r)).drop o).take k |>.map .v))) else .leaf none
  | .hol _ sh l i _ cs => .ite (decide (r = i)) (.leaf (bif Nat.ble (o + k) cs.length then some ((cs.drop o).take k) else none))
      (bif sh.plainAt o k then T.when (decide (r < l.length)) (.leaf (some (((encF sh (getR l r)).drop o).take k |>.map .v))) else .leaf none)
/-- The names are of read-only memory. -/
def allRo (lk : Nat → Option AB) : List Nat → Bool
  | [] => true
  | m :: r => (match lk m with | some (.ro _) => true | _ => false) && allRo lk r
def nodupB : List Nat → Bool
  | [] => true
  | n :: r => !r.contains n && nodupB r
def spent (ns : List Nat) : Hp := ns.map fun n => (n, none)
/-- What is loaded, out of its cells. -/
def loaded (agg : Bool) (l : List AV) (rd : List Nat) (up nw : Hp) (nn : Nat) : Te :=
  bif agg then one { val := .agg l, reads := rd, upd := up, news := nw, nn := nn } else match l with | [v] => one { val := v, reads := rd, upd := up, news := nw, nn := nn } | _ => no
def effLoad (P : Program) (ty : TypeId) (a : AV) (lk : Nat → Option AB) (fr : Nat) : Te :=
  match a with
  | .ptr n r o =>
    match P.underlying ty, P.info? ty with
    | some d, some i =>
      let k := bif isAggD d then i.size else 1
      match lk n with
      | some (.al m) => match lk m with
        | some (.own (.hol _ _ _ _ q cs)) => bif Nat.beq q n && Nat.beq r 0 && Nat.ble (o + k) cs.length then loaded (isAggD d) ((cs.drop o).take k) [n, m] [] [] 0 else no
        | _ => no
      | some (.own (.rows e sh l)) =>
        bif sh.plainAt o k then ((M.rows e sh l).get r o k).bindO fun x => loaded (isAggD d) x [n] [] [] 0
        else bif Nat.ble (o + k) sh.size then T.when (decide (r < l.length)) ((scat false sh (getR l r) (fr + 1)).bind fun x =>
          loaded (isAggD d) ((x.1.drop o).take k) [n] [(n, some (.own (.hol e sh l r fr x.1)))] ((fr, some (.al n)) :: x.2.1) (x.2.2 - fr))
        else no
      | some (.ro (.rows e sh l)) =>
        bif sh.plainAt o k then ((M.rows e sh l).get r o k).bindO fun x => loaded (isAggD d) x [n] [] [] 0
        else bif Nat.ble (o + k) sh.size then T.when (decide (r < l.length)) ((scat true sh (getR l r) fr).bind fun x => loaded (isAggD d) ((x.1.drop o).take k) [n] [] x.2.1 (x.2.2 - fr))
        else no
      | some b => match b.cont with
        | some x => (x.get r o k).bindO fun l => loaded (isAggD d) l [n] [] [] 0
        | none => no
      | none => no
    | _, _ => no
  | .v (.pointer (some a)) =>
    match P.underlying ty, P.info? ty with
    | some d, some i => match cellsG a (bif isAggD d then i.size else 1) with
      | some l => loaded (isAggD d) (l.map .v) [] [] [] 0
      | none => bif isAggD d then no else match tabG a with
        | some (q, es) => one { val := .mapr fr, news := [(fr, some (.tb q es))], nn := 1 }
        | none => no
    | _, _ => no
  | _ => no
/-- Cells put in their place. -/
def M.put (x : M) (r o : Nat) (l : List AV) : T (Option M) :=
  match x with
  | .raw e s cs => pickN (cs.length / s) r fun r => .leaf (bif Nat.ble (r * s + o + l.length) cs.length then some (.raw e s (cs.take (r * s + o) ++ l ++ cs.drop (r * s + o + l.length))) else none)
  | .rows e sh ds => bif sh.flat && Nat.ble (o + l.length) sh.size then
      match decF sh (((encF sh (getR ds r)).map AV.v).take o ++ l ++ ((encF sh (getR ds r)).map AV.v).drop (o + l.length)) with
      | some d => T.when (decide (r < ds.length)) (.leaf (some (.rows e sh (ds.set r d))))
      | none => .leaf none
    else .leaf none
  | .hol e sh ds i q cs => T.when (decide (r = i ∧ o + l.length ≤ cs.length)) (.leaf (some (.hol e sh ds i q (cs.take o ++ l ++ cs.drop (o + l.length)))))
def effStore (P : Program) (ty : TypeId) (a x : AV) (lk : Nat → Option AB) (fr : Nat) : Te :=
  match a with
  | .ptr n r o =>
    match P.info? ty with
    | some i =>
      bif Nat.beq (acells x).length i.size && allOne (acells x) then
        match lk n with
        | some (.al m) => match lk m with
          | some (.own (.hol e sh l j q cs)) => bif Nat.beq q n && Nat.beq r 0 && Nat.ble (o + (acells x).length) cs.length then
              one { val := .v undef, reads := [n, m], upd := [(m, some (.own (.hol e sh l j q (cs.take o ++ acells x ++ cs.drop (o + (acells x).length)))))] } else no
          | _ => no
        | some (.own (.rows e sh l)) =>
          bif sh.flat then ((M.rows e sh l).put r o (acells x)).mapO fun y => { val := .v undef, reads := [n], upd := [(n, some (.own y))] }
          else bif Nat.ble (o + (acells x).length) sh.size then T.when (decide (r < l.length)) ((scat false sh (getR l r) (fr + 1)).bind fun z =>
            one { val := .v undef, reads := [n], upd := [(n, some (.own (.hol e sh l r fr (z.1.take o ++ acells x ++ z.1.drop (o + (acells x).length)))))], news := (fr, some (.al n)) :: z.2.1, nn := z.2.2 - fr })
          else no
        | some (.own y) => (y.put r o (acells x)).mapO fun y => { val := .v undef, reads := [n], upd := [(n, some (.own y))] }
        | _ => no
      else no
    | none => no
  | _ => no
def effPick (c a b : AV) : Te :=
  match c with
  | .v (.bool t) =>
    match a, b with
    | .v (.bool x), .v (.bool y) => one { val := .v (.bool (bif t then x else y)) }
    | .v (.int k x), .v (.int k' y) => if k = k' then one { val := .v (.int k (bif t then x else y)) } else no
    | a, b => .ite t (one { val := a }) (one { val := b })
  | _ => no
def effField (P : Program) (s : TypeId) (x : AV) (f : Nat) : Te :=
  match x with
  | .ptr n r o =>
    match P.underlying s with
    | some (.struct fs) =>
      match fs[f]? with
      | some fd =>
        match P.info? fd.type with
        | some i => bif Nat.beq i.size 0 then no else one { val := .ptr n r (o + fd.offset) }
        | none => no
      | none => no
    | _ => no
  | _ => no
/-- The address of an element: 'rows' where the slice goes from row to row. -/
def elemAt (x : M) (r o size : Nat) (j : Nat) (n : Nat) : AV := bif Nat.beq x.size size && Nat.beq o 0 then .ptr n (r + j) 0 else .ptr n r (o + j * size)
/-- Row idx of n is told cell by cell. -/
def focus (n : Nat) (e : TypeId) (sh : Sh) (l : List (Den sh)) (idx fr : Nat) (rd : List Nat) (up : Hp) : Te :=
  T.when (decide (idx < l.length)) ((scat false sh (getR l idx) (fr + 1)).bind fun x => one { val := .ptr fr 0 0, reads := rd, upd := (n, some (.own (.hol e sh l idx fr x.1))) :: up, news := (fr, some (.al n)) :: x.2.1, nn := x.2.2 - fr })
def effIndex (P : Program) (ty : TypeId) (x i : AV) (lk : Nat → Option AB) (fr : Nat) : Te :=
  match i with
  | .v (.int _ j) =>
    match P.underlying ty with
    | some (.array len e) =>
      match x, P.info? e with
      | .ptr n r o, some ie => T.when (decide (0 ≤ j ∧ j < len)) (pickN len j.toNat fun j => one { val := .ptr n r (o + j * ie.size) })
      | .v (.pointer (some a)), some ie => T.when (decide (0 ≤ j ∧ j < len)) (pickN len j.toNat fun j => one { val := .v (.pointer (some (a.add (j * ie.size)))) })
      | _, _ => no
    | some (.slice e) =>
      match P.info? e with
      | some ie =>
        match x with
        | .sl n r o len _ =>
          match lk n with
          | some (.own (.rows e' sh l)) =>
            T.when (decide (0 ≤ j ∧ j < len ∧ 0 < l.length)) (bif sh.flat then one { val := elemAt (.rows e' sh l) r o ie.size j.toNat n, reads := [n] }
              else bif Nat.beq sh.size ie.size && Nat.beq o 0 then focus n e' sh l (r + j.toNat) fr [n] [] else no)
          | some (.own (.hol e' sh l i q cs)) =>
            T.when (decide (0 ≤ j ∧ j < len ∧ 0 < l.length)) (bif Nat.beq sh.size ie.size && Nat.beq o 0 then
              .ite (decide (r + j.toNat = i)) (one { val := .ptr q 0 0, reads := [n] })
                ((gat lk false sh cs).bindO fun a => bif nodupB a.2.1 && allRo lk a.2.2 && !a.2.1.contains n then focus n e' sh (l.set i a.1) (r + j.toNat) fr (n :: (a.2.1 ++ a.2.2)) (spent a.2.1) else no)
              else no)
          | some b => match b.cont with
            | some y => T.when (decide (0 ≤ j ∧ j < len ∧ 0 < y.len)) (one { val := elemAt y r o ie.size j.toNat n, reads := [n] })
            | none => no
          | none => no
        | _ => no
      | none => no
    | _ => no
  | _ => no
def partOf (d : TypeDesc) (i : TypeInfo) (cs : List AV) (off : Nat) : Option AV :=
  bif isAggD d then some (.agg ((cs.drop off).take i.size)) else cs[off]?
def effPart (P : Program) (ty : TypeId) (x : AV) (f : Nat) : Te :=
  match x with
  | .agg cs =>
    match P.underlying ty with
    | some (.struct fs) =>
      match fs[f]? with
      | some fd =>
        match P.underlying fd.type, P.info? fd.type with
        | some d, some i => match partOf d i cs fd.offset with | some v => one { val := v } | none => no
        | _, _ => no
      | none => no
    | _ => no
  | _ => no
def isAgg : AV → Bool
  | .agg _ | .v (.agg _) => true
  | _ => false
def effElem (P : Program) (ty : TypeId) (x i : AV) : Te :=
  match i with
  | .v (.int _ j) =>
    match P.underlying ty with
    | some (.array len e) =>
      bif isAgg x then
        match P.underlying e, P.info? e with
        | some d, some ie => T.when (decide (0 ≤ j ∧ j < len)) (pickN len j.toNat fun j => match partOf d ie (acells x) (j * ie.size) with | some v => one { val := v } | none => no)
        | _, _ => no
      else no
    | some .string =>
      match x with
      | .v (.string s) => T.when (decide (0 ≤ j ∧ j < s.size)) (match s[j.toNat]? with | some b => one { val := .v (.int .u8 b.toNat) } | none => no)
      | _ => no
    | _ => no
  | _ => no

/-! Equality. -/
def aeqF (P : Program) (eq : TypeId → AV → AV → Option Bool) : List Field → List AV → List AV → Option Bool
  | [], _, _ => some true
  | f :: fs, xs, ys =>
    bif f.name == "_" then aeqF P eq fs xs ys else
    match P.underlying f.type, P.info? f.type with
    | some u, some i =>
      match partOf u i xs f.offset, partOf u i ys f.offset with
      | some a, some b =>
        match eq f.type a b, aeqF P eq fs xs ys with
        | some r, some s => some (r && s)
        | _, _ => none
      | _, _ => none
    | _, _ => none
def aeqA (P : Program) (eq : TypeId → AV → AV → Option Bool) (e : TypeId) (u : TypeDesc) (i : TypeInfo) (xs ys : List AV) : Nat → Nat → Option Bool
  | 0, _ => some true
  | n + 1, k =>
    match partOf u i xs (k * i.size), partOf u i ys (k * i.size) with
    | some a, some b =>
      match eq e a b, aeqA P eq e u i xs ys n (k + 1) with
      | some r, some s => some (r && s)
      | _, _ => none
    | _, _ => none
def aeq (P : Program) : Nat → TypeId → AV → AV → Option Bool
  | 0, _, _, _ => none
  | d + 1, t, x, y =>
    bif isAgg x && isAgg y then
      match P.underlying t with
      | some (.struct fs) => bif P.stoodInHeld t then none else aeqF P (aeq P d) fs.toList (acells x) (acells y)
      | some (.array n e) =>
        match P.underlying e, P.info? e with
        | some u, some i => aeqA P (aeq P d) e u i (acells x) (acells y) n 0
        | _, _ => none
      | _ => none
    else
    match P.underlying t, x, y with
    | some (.int _), .v (.int k a), .v (.int k' b) => if k = k' then some (a == b) else none
    | some .bool, .v (.bool a), .v (.bool b) => some (a == b)
    | some .string, .v (.string a), .v (.string b) => some (a == b)
    | some (.float _), .v (.float k a), .v (.float k' b) => if k = k' then some (Op.floatEq k a b) else none
    | some (.complex _), .v (.complex k a b), .v (.complex k' a' b') => if k = k' then some (Op.floatEq k a a' && Op.floatEq k b b') else none
    | some (.pointer _), .v (.pointer none), .v (.pointer none) => some true
    | some (.pointer _), .ptr _ _ _, .v (.pointer none) => some false
    | some (.pointer _), .v (.pointer none), .ptr _ _ _ => some false
    | _, _, _ => none
def eqB (P : Program) (ty : TypeId) (x y : AV) : Option Bool :=
  bif isAgg x && isAgg y then
    bif P.eqGuardType P.depth ty then none else aeq P 10000 ty x y
  else
  match P.underlying ty, x, y with
  | some (.pointer _), .ptr _ _ _, .v (.pointer none) => some false
  | some (.pointer _), .v (.pointer none), .ptr _ _ _ => some false
  | some (.map _ _), .mapr _, .v (.map none) => some false
  | some (.map _ _), .v (.map none), .mapr _ => some false
  | some (.func _ _ _), .func _ _ _, .v .nilFunc => some false
  | some (.func _ _ _), .v .nilFunc, .func _ _ _ => some false
  | _, _, _ => none
def effEq (P : Program) (op : BinOp) (ty : TypeId) (x y : AV) : Te :=
  match op with
  | .eql => .leaf ((eqB P ty x y).map fun b => { val := .v (.bool b) })
  | .neq => .leaf ((eqB P ty x y).map fun b => { val := .v (.bool !b) })
  | _ => no
/-! Floats: no NaN comes of anything here. -/
def fOk (op : BinOp) (k : FloatKind) (x y : Nat) : Bool := (floatBits op k x y).isSome
def fVal (op : BinOp) (k : FloatKind) (x y : Nat) : Nat := (floatBits op k x y).getD 0
def fCmp (op : BinOp) (k : FloatKind) (x y : Nat) : Bool :=
  match op with
  | .eql => k.format.order x y == some .eq
  | .neq => k.format.order x y != some .eq
  | .lss => k.format.order x y == some .lt
  | .leq => k.format.order x y == some .lt || k.format.order x y == some .eq
  | .gtr => k.format.order x y == some .gt
  | .geq => k.format.order x y == some .gt || k.format.order x y == some .eq
  | _ => false
def fMinOk (k : FloatKind) (x y : Nat) : Bool := (k.format.order x y).isSome
def fMin (k : FloatKind) (x y : Nat) : Nat :=
  match k.format.order x y with
  | some .lt => x
  | some .gt => y
  | _ => if (k.decode x).neg then x else y
def fMax (k : FloatKind) (x y : Nat) : Nat :=
  match k.format.order x y with
  | some .lt => y
  | some .gt => x
  | _ => if (k.decode x).neg then y else x
def effFloat (op : BinOp) (k : FloatKind) (x y : Nat) : Te :=
  match op with
  | .add | .sub | .mul | .quo => T.when (fOk op k x y) (one { val := .v (.float k (fVal op k x y)) })
  | .eql | .neq | .lss | .leq | .gtr | .geq => one { val := .v (.bool (fCmp op k x y)) }
  | _ => no
def effComplex (op : BinOp) (k : FloatKind) (a b c d : Nat) : Te :=
  match op with
  | .add | .sub => T.when (fOk op k a c && fOk op k b d) (one { val := .v (.complex k (fVal op k a c) (fVal op k b d)) })
  | .eql => one { val := .v (.bool (fCmp .eql k a c && fCmp .eql k b d)) }
  | .neq => one { val := .v (.bool !(fCmp .eql k a c && fCmp .eql k b d)) }
  | _ => no
/-! NaNs, where a context follows them. -/
def isFl : AV → Bool
  | .fl _ => true
  | _ => false
def isF64 : AV → Bool
  | .v (.float .f64 _) | .fl _ => true
  | _ => false
def arithB : BinOp → Bool
  | .add | .sub | .mul | .quo => true
  | _ => false
def nanCase (op : BinOp) (x y : AV) : Bool := (isFl x || isFl y || arithB op) && isF64 x && isF64 y
def nanCmp (op : BinOp) (n : Nat) (lk : Nat → Option AB) : Te :=
  match lk n with
  | some .nan => match op with
    | .eql | .lss | .leq | .gtr | .geq => one { val := .v (.bool false), reads := [n] }
    | .neq => one { val := .v (.bool true), reads := [n] }
    | _ => no
  | _ => no
def effNan (op : BinOp) (x y : AV) (lk : Nat → Option AB) (fr : Nat) : Te :=
  match x, y with
  | .v (.float .f64 a), .v (.float .f64 b) => bif arithB op then
      bif fOk op .f64 a b then one { val := .v (.float .f64 (fVal op .f64 a b)) } else one { val := .fl fr, news := [(fr, some .nan)], nn := 1 }
    else no
  | .fl n, .v (.float .f64 _) => nanCmp op n lk
  | .v (.float .f64 _), .fl n => nanCmp op n lk
  | .fl n, .fl _ => nanCmp op n lk
  | _, _ => no
def effCx (x y : AV) : Te := bif isF64 x && isF64 y then one { val := .cx x y } else no
def effRe (x : AV) : Te :=
  match x with
  | .cx a _ => one { val := a }
  | _ => no
def effIm (x : AV) : Te :=
  match x with
  | .cx _ b => one { val := b }
  | _ => no
/-- Division, and shifts, by a number that is not known. -/
def effInt (op : BinOp) (k k' : IntKind) (x y : Int) : Te :=
  match op with
  | .quo => if k = k' then T.when (decide (y ≠ 0)) (one { val := .v (.int k (k.wrap (x.tdiv y))) }) else no
  | .rem => if k = k' then T.when (decide (y ≠ 0)) (one { val := .v (.int k (x.tmod y)) }) else no
  | .shl => T.when (decide (0 ≤ y)) (one { val := .v (.int k (k.wrap (x * 2 ^ (min y.toNat k.bits)))) })
  | .shr => T.when (decide (0 ≤ y)) (one { val := .v (.int k (x.fdiv (2 ^ (min y.toNat k.bits)))) })
  | _ => no
def effMin (args : List AV) : Te :=
  match args with
  | [.v (.int k x), .v (.int _ y)] => one { val := .v (.int k (if y < x then y else x)) }
  | [.v (.float k x), .v (.float k' y)] => if k = k' then T.when (fMinOk k x y) (one { val := .v (.float k (fMin k x y)) }) else no
  | _ => no
def effMax (args : List AV) : Te :=
  match args with
  | [.v (.int k x), .v (.int _ y)] => one { val := .v (.int k (if y > x then y else x)) }
  | [.v (.float k x), .v (.float k' y)] => if k = k' then T.when (fMinOk k x y) (one { val := .v (.float k (fMax k x y)) }) else no
  | _ => no
def effExtract (x : AV) (i : Nat) : Te :=
  match x with
  | .tuple vs => match vs[i]? with | some v => one { val := v } | none => no
  | _ => no
def effNil (x : AV) : Te :=
  match x with
  | .ptr n r o => one { val := .ptr n r o }
  | _ => no
def fnOf : AV → Option (FuncId × List AV × List AV)
  | .v (.func (.func f) first caps) => some (f, first.toList.map .v, caps.toList.map .v)
  | .func (.func f) first caps => some (f, first, caps)
  | _ => none
def effCall (K : FuncId → Option Spec) (vals : List AV) (lk : Nat → Option AB) (fr : Nat) : Te :=
  match vals with
  | f :: args =>
    match fnOf f with
    | some (g, first, caps) =>
      match K g with
      | some s => s (first ++ args ++ caps) lk fr
      | none => no
    | none => no
  | [] => no
def effBox (e : TypeId) (x : AV) (fr : Nat) : Te :=
  bif Nat.blt 0 (acells x).length then one { val := .ptr fr 0 0, news := [(fr, some (.own (.raw e (acells x).length (acells x))))], nn := 1 } else no
def effAlloc (P : Program) (e : TypeId) (fr : Nat) : Te :=
  match P.info? e with
  | some i => match i.zero with
    | some z => bif Nat.blt 0 z.cells.toList.length then one { val := .ptr fr 0 0, news := [(fr, some (.own (.raw e z.cells.toList.length (z.cells.toList.map .v))))], nn := 1 } else no
    | none => no
  | none => no

/-! Literals. -/
def afill (place : Nat → Option (Nat × Nat)) (cells : List AV) : List (Nat × AV) → Option (List AV)
  | [] => some cells
  | (i, v) :: rest =>
    match place i with
    | none => none
    | some (off, size) =>
      bif Nat.beq (acells v).length size && Nat.ble (off + size) cells.length then afill place (cells.take off ++ acells v ++ cells.drop (off + size)) rest else none
def placesOf (P : Program) : List Field → Option (List (Nat × Nat))
  | [] => some []
  | f :: fs => match P.info? f.type, placesOf P fs with
    | some i, some r => some ((f.offset, i.size) :: r)
    | _, _ => none
def effBuild (P : Program) (t : TypeId) (parts : List (Nat × AV)) : Te :=
  match P.info? t with
  | some it =>
    match it.zero with
    | some z =>
      match P.underlying t with
      | some (.array _ e) => match P.info? e with
        | some ie => .leaf ((afill (fun i => some (i * ie.size, ie.size)) (z.cells.toList.map .v) parts).map fun cs => { val := .agg cs })
        | none => no
      | some (.struct fs) => match placesOf P fs.toList with
        | some places => .leaf ((afill (fun i => places[i]?) (z.cells.toList.map .v) parts).map fun cs => { val := .agg cs })
        | none => no
      | _ => no
    | none => no
  | none => no
/-- 'n' times the cells of a zero. -/
def zerosOf (z : Array Value) (n : Nat) : List AV := (List.range n).map fun i => .v (z[i % z.size]!)
def effBuildSlice (P : Program) (t : TypeId) (len : Nat) (parts : List (Nat × AV)) (fr : Nat) : Te :=
  match P.underlying t with
  | some (.slice e) =>
    match P.info? e with
    | some ie =>
      match ie.zero with
      | some z =>
        bif Nat.ble (len * ie.size) (2 ^ 24) && Nat.blt 0 ie.size then
          match afill (fun i => some (i * ie.size, ie.size)) (zerosOf z.cells (len * ie.size)) parts with
          | some cs => bif Nat.beq cs.length (len * ie.size) then one { val := .sl fr 0 0 len none, news := [(fr, some (.own (.raw e ie.size cs)))], nn := 1 } else no
          | none => no
        else no
      | none => no
    | none => no
  | _ => no
/-- A new row of rows, told as rows of a shape. -/
def madeRows (sh : Sh) (e : TypeId) (size : Nat) (z : Value) (n : Nat) : Option M :=
  bif sh.flat && Nat.beq sh.size size && sh.mem then match decF sh (z.cells.toList.map .v) with | some d => some (.rows e sh (List.replicate n d)) | none => none else none
def effMakeSlice (P : Program) (mk : TypeId → Option Sh) (t : TypeId) (len cap : AV) (fr : Nat) : Te :=
  match P.underlying t, len, cap with
  | some (.slice e), .v (.int _ l), .v (.int _ c) =>
    match P.info? e with
    | some ie =>
      match ie.zero with
      | some z =>
        bif Nat.blt 0 ie.size && Nat.beq z.cells.size ie.size then
          T.when (decide (0 ≤ l ∧ l ≤ c ∧ c ≤ 1073741824 ∧ (ie.bytes : Int) * c ≤ 281474976710656))
            (match mk e with
              | some sh => match madeRows sh e ie.size z l.toNat with
                | some x => one { val := .sl fr 0 0 l.toNat none, news := [(fr, some (.own x))], nn := 1 }
                | none => no
              | none => one { val := .sl fr 0 0 l.toNat none, news := [(fr, some (.own (.raw e ie.size (zerosOf z.cells (l.toNat * ie.size)))))], nn := 1 })
        else no
      | none => no
    | none => no
  | _, _, _ => no

/-! Slices. -/
def M.noHol : M → Bool
  | .hol .. => false
  | _ => true
/-- Rows r to r + n of contents. -/
def M.sub (x : M) (r n : Nat) : T (Option M) :=
  match x with
  | .raw e s cs => .leaf (bif Nat.ble ((r + n) * s) cs.length && Nat.blt 0 s then some (.raw e s ((cs.drop (r * s)).take (n * s))) else none)
  | .rows e sh l => T.when (decide (r + n ≤ l.length)) (.leaf (some (.rows e sh (subL l r n))))
  | .hol _ _ l _ _ _ => T.when (decide (r = 0 ∧ n = l.length)) (.leaf (some x))
def boundOf : Option AV → Option (Option Int)
  | none => some none
  | some (.v (.int _ i)) => some (some i)
  | _ => none
/-- A slice of a slice: from l to h, its capacity k less l. -/
def effCutK (n r o : Nat) (k : Nat) (y : M) (size : Nat) (l h : Int) : Te :=
  .ite (decide ((k : Int) = l)) (one { val := .sl n r o (h - l).toNat (some (k - l.toNat)), reads := [n] })
    (one { val := (bif Nat.beq y.size size && Nat.beq o 0 then .sl n (r + l.toNat) 0 (h - l).toNat (some (k - l.toNat)) else .sl n r (o + l.toNat * size) (h - l).toNat (some (k - l.toNat))), reads := [n] })
def effCut (n r o len : Nat) (c : Option Nat) (own : Bool) (y : M) (size : Nat) (low high max : Option Int) (fr : Nat) : Te :=
  match max, c with
  | some m, some k => bif high.isSome && own then T.when (decide (0 ≤ low.getD 0 ∧ low.getD 0 ≤ high.getD len ∧ high.getD len ≤ m ∧ m ≤ k)) (effCutK n r o m.toNat y size (low.getD 0) (high.getD len)) else no
  | some m, none =>
    bif high.isSome && own then T.when (decide (0 ≤ low.getD 0 ∧ low.getD 0 ≤ high.getD len ∧ high.getD len ≤ m ∧ m ≤ len ∧ r + len ≤ y.len)) (effCutK n r o m.toNat y size (low.getD 0) (high.getD len)) else no
  | none, some k => bif own then T.when (decide (0 ≤ low.getD 0 ∧ low.getD 0 ≤ high.getD len ∧ high.getD len ≤ k)) (effCutK n r o k y size (low.getD 0) (high.getD len)) else no
  | none, none =>
    bif Nat.beq y.size size && Nat.beq o 0 then
      match low with
      | none => T.when (decide (0 ≤ high.getD len ∧ high.getD len ≤ len ∧ r + len ≤ y.len)) (one { val := .sl n r 0 (high.getD len).toNat none, reads := [n] })
      | some l => T.when (decide (0 ≤ l ∧ l ≤ high.getD len ∧ high.getD len ≤ len ∧ r + len ≤ y.len))
          (bif own then .ite (decide (l = len)) (one { val := .se n r (r + len), reads := [n] }) (one { val := .sl n (r + l.toNat) 0 (high.getD len - l).toNat none, reads := [n] })
            else bif !y.noHol then no else (y.sub (r + l.toNat) (high.getD len - l).toNat).bindO fun z => one { val := .sl fr 0 0 (high.getD len - l).toNat none, reads := [n], news := [(fr, some (.ro z))], nn := 1 })
    else no
def nilB : Option Int → Bool
  | none => true
  | some i => decide (i = 0)
def effSlice (P : Program) (t : TypeId) (x : AV) (low high max : Option AV) (lk : Nat → Option AB) (fr : Nat) : Te :=
  match P.underlying t, boundOf low, boundOf high, boundOf max with
  | some (.slice e), some l, some h, some m =>
    match x, P.info? e with
    | .sl n r o len c, some ie =>
      match lk n with
      | some (.own y) => effCut n r o len c true y ie.size l h m fr
      | some (.ro y) => effCut n r o len c false y ie.size l h m fr
      | _ => no
    | .v (.slice none 0 0), some _ => T.when (nilB l && nilB h && nilB m && (m.isNone || h.isSome)) (one { val := .v (.slice none 0 0) })
    | _, _ => no
  | some (.array k e), some l, some h, some m =>
    match x, P.info? e with
    | .ptr n r o, some ie =>
      match lk n with
      | some (.own y) => bif Nat.blt 0 y.len then effCut n r o k (some k) true y ie.size l h m fr else no
      | some (.al m') => match lk m' with
        | some (.own y) => no
        | _ => no
      | _ => no
    | .v (.pointer (some a)), some _ => T.when (nilB l && h.isNone && m.isNone && Nat.blt 0 k) (one { val := .v (.slice (some a) k k) })
    | _, _ => no
  | _, _, _, _ => no
def effLen (P : Program) (t : TypeId) (x : AV) (lk : Nat → Option AB) : Te :=
  match P.underlying t, x with
  | some (.slice _), .sl _ _ _ len _ => one { val := .v (goInt len) }
  | some (.slice _), .se _ _ _ => one { val := .v (goInt 0) }
  | some (.array n _), _ => one { val := .v (goInt n) }
  | some (.map _ _), .mapr n => match lk n with
    | some (.mp es _) => one { val := .v (goInt es.length), reads := [n] }
    | some (.obj _ .map _ _ l) => one { val := .v (goInt l.length), reads := [n] }
    | some (.mph _ _ _ l _ _) => one { val := .v (goInt l.length), reads := [n] }
    | _ => no
  | _, _ => no
def effCap (P : Program) (t : TypeId) (x : AV) : Te :=
  match P.underlying t, x with
  | some (.slice _), .sl _ _ _ _ (some c) => one { val := .v (goInt c) }
  | _, _ => no
def M.canMove : M → Bool
  | .rows _ sh _ => sh.flat
  | .raw .. => true
  | .hol .. => false
/-- The rows that a slice shows; the names that are read; the names that are spent. -/
def rowsOf (x : AV) (size : Nat) (lk : Nat → Option AB) : T (Option (M × List Nat × List Nat)) :=
  match x with
  | .sl n r o len c =>
    match lk n with
    | some (.own y) =>
      bif Nat.beq y.size size && Nat.beq o 0 then
        bif y.canMove then (y.sub r len).mapO fun z => (z, [n], [])
        else match y with
          | .rows e sh l => bif Nat.beq r 0 && c.isNone then T.when (decide (len = l.length)) (.leaf (some (.rows e sh l, [n], [n]))) else .leaf none
          | _ => .leaf none
      else (y.get r o (len * size)).mapO fun l => (.raw 0 size l, [n], [])
    | some (.ro y) =>
      bif Nat.beq y.size size && Nat.beq o 0 then bif y.canMove then (y.sub r len).mapO fun z => (z, [n], []) else .leaf none
      else (y.get r o (len * size)).mapO fun l => (.raw 0 size l, [n], [])
    | _ => .leaf none
  | .v (.slice _ 0 _) => .leaf (some (.raw 0 size [], [], []))
  | .se _ _ _ => .leaf (some (.raw 0 size [], [], []))
  | .v (.slice (some a) len _) => .leaf ((cellsG a (len * size)).map fun l => (.raw 0 size (l.map .v), [], []))
  | .v (.string s) => .leaf (bif Nat.beq size 1 then some (.raw 0 1 (s.data.toList.map fun b => .v (.int .u8 b.toNat)), [], []) else none)
  | _ => .leaf none
def M.shape : M → Option Sh
  | .rows _ sh _ => some sh
  | .hol _ sh _ _ _ _ => some sh
  | .raw .. => none
/-- Rows behind rows; the names that are spent; the names that are read. -/
def joinM (lk : Nat → Option AB) (el : TypeId) (x y : M) : T (Option (M × List Nat × List Nat)) :=
  match x, y with
  | .raw _ s cs, .raw _ s' ds => .leaf (bif Nat.beq s s' && Nat.beq (cs.length / s * s) cs.length && Nat.beq (ds.length / s * s) ds.length && Nat.blt 0 s && allOne ds then some (.raw el s (cs ++ ds), [], []) else none)
  | x, y =>
    match (match x.shape with | some sh => some sh | none => y.shape) with
    | some sh => (gatM sh (gat lk false sh) x).bindO fun p => (gatM sh (gat lk false sh) y).bindO fun q =>
        bif sh.mem && nodupB (p.2.1 ++ q.2.1) && allRo lk (p.2.2 ++ q.2.2) then .leaf (some (.rows el sh (p.1 ++ q.1), p.2.1 ++ q.2.1, p.2.2 ++ q.2.2)) else .leaf none
    | none => .leaf none
/-- How many rows an append may make. -/
def mostRows : Nat := 1073741824
def isStr (P : Program) (t : TypeId) : Bool := match P.underlying t with | some .string => true | _ => false
def nilM (e : TypeId) (size : Nat) : M := .raw e size []
def effAppend (P : Program) (ts : Array TypeId) (s x : AV) (lk : Nat → Option AB) (fr : Nat) : Te :=
  match ts.toList with
  | [t, t'] =>
    match P.underlying t with
    | some (.slice e) =>
      match P.info? e with
      | some i =>
        match i.zero with
        | some z =>
          bif Nat.beq z.cells.size i.size && Nat.blt 0 i.size && Nat.ble i.bytes 65536 && (Nat.beq t t' || isStr P t') then
            (rowsOf x i.size lk).bindO fun (y, ns, sp) =>
              match s with
              | .v (.slice none 0 0) =>
                .ite (decide (y.len = 0)) (one { val := .v (.slice none 0 0), reads := ns })
                  (T.when (decide (y.len ≤ mostRows)) ((joinM lk e (nilM e i.size) y).bindO fun (z, us, ms) =>
                    bif nodupB (sp ++ us) then one { val := .sl fr 0 0 y.len none, reads := ns ++ us ++ ms, upd := spent (sp ++ us), news := [(fr, some (.own z))], nn := 1 } else no))
              | .sl n r o len c =>
                match lk n with
                | some (.own b) =>
                  bif Nat.beq o 0 && Nat.beq b.e e && Nat.beq b.size i.size then
                    match c with
                    | none => T.when (decide (len + y.len ≤ mostRows)) ((b.sub r len).bindO fun b => (joinM lk e b y).bindO fun (z, us, ms) =>
                        bif nodupB (n :: (sp ++ us)) then one { val := .sl fr 0 0 (len + y.len) none, reads := n :: (ns ++ us ++ ms), upd := spent (n :: (sp ++ us)), news := [(fr, some (.own z))], nn := 1 } else no)
                    | some k => bif b.canMove then
                        T.when (decide (k < len + y.len ∧ len + y.len ≤ mostRows)) ((b.sub r len).bindO fun b => (joinM lk e b y).bindO fun (z, us, ms) =>
                          bif nodupB (n :: (sp ++ us)) then one { val := .sl fr 0 0 (len + y.len) none, reads := n :: (ns ++ us ++ ms), upd := spent (sp ++ us), news := [(fr, some (.own z))], nn := 1 } else no)
                        else no
                  else no
                | _ => no
              | _ => no
          else no
        | none => no
      | none => no
    | _ => no
  | _ => no

/-- Bytes, as a string. -/
def byteSh : Sh := .sc (.int .u8) .nil
def bytesL : List AV → Option (List Int)
  | [] => some []
  | v :: r => match v with
    | .v (.int .u8 n) => match bytesL r with
      | some l => some (n :: l)
      | none => none
    | _ => none
def bytesM : M → Option (List Int)
  | .rows _ sh l => if h : sh = byteSh then some (show List (Den byteSh) from h ▸ l) else none
  | .raw _ s cs => bif Nat.beq s 1 then bytesL cs else none
  | .hol .. => none
/-- A slice, and no string. -/
def isSlice : AV → Bool
  | .sl .. => true
  | .se .. => true
  | .v (.slice ..) => true
  | _ => false
def effConvert (P : Program) (src dst : TypeId) (x : AV) (lk : Nat → Option AB) : Te :=
  match P.underlying src, P.underlying dst with
  | some (.slice e), some .string =>
    match P.underlying e with
    | some (.int .u8) => bif isSlice x then (rowsOf x 1 lk).bindO fun (y, ns, sp) => match bytesM y with
      | some l => one { val := .v (.string (strOfNums l)), reads := ns }
      | none => no
      else no
    | _ => no
  | _, _ => no
/-- A slice against nil. -/
def effNilS (P : Program) (op : BinOp) (ty : TypeId) (n : Nat) (lk : Nat → Option AB) : Te :=
  match P.underlying ty with
  | some (.slice _) =>
    match (lk n).bind AB.cont with
    | some y => T.when (decide (0 < y.len)) (match op with
      | .eql => one { val := .v (.bool false), reads := [n] }
      | .neq => one { val := .v (.bool true), reads := [n] }
      | _ => no)
    | none => no
  | _ => no
def effCmp (P : Program) (op : BinOp) (ty : TypeId) (x y : AV) (lk : Nat → Option AB) : Te :=
  match x, y with
  | .sl n _ _ _ _, .v (.slice none 0 0) => effNilS P op ty n lk
  | .v (.slice none 0 0), .sl n _ _ _ _ => effNilS P op ty n lk
  | .v (.float k a), .v (.float k' b) => if k = k' then effFloat op k a b else no
  | .v (.complex k a b), .v (.complex k' c d) => if k = k' then effComplex op k a b c d else no
  | .v (.int k a), .v (.int k' b) => effInt op k k' a b
  | x, y => effEq P op ty x y
/-! Rows overwritten. -/
/-- Rows from row r, cell o on, overwritten by other rows. -/
def M.over (lk : Nat → Option AB) (y : M) (r o : Nat) (z : M) : T (Option M) :=
  match y, z with
  | .raw e s cs, .raw _ _ ds => bif allOne ds then (M.raw e s cs).put r o ds else .leaf none
  | .rows e sh l, z => bif sh.flat && sh.mem && Nat.beq o 0 && z.canMove then (gatM sh (gat lk false sh) z).bindO fun p =>
      T.when (decide (r + p.1.length ≤ l.length)) (.leaf (some (.rows e sh (l.take r ++ p.1 ++ l.drop (r + p.1.length)))))
    else .leaf none
  | _, _ => .leaf none
/-- The rows, or the cells, of zeros. -/
def zerosM (y : M) (ie : TypeInfo) (z : Value) (n : Nat) : Option M :=
  match y with
  | .rows _ sh _ => madeRows sh 0 ie.size z n
  | .raw .. => some (.raw 0 ie.size (zerosOf z.cells (n * ie.size)))
  | _ => none
def effClear (P : Program) (t : TypeId) (x : AV) (lk : Nat → Option AB) : Te :=
  match P.underlying t, x with
  | some (.slice _), .v (.slice _ 0 _) => one { val := .v (.tuple #[]) }
  | some (.slice _), .se _ _ _ => one { val := .v (.tuple #[]) }
  | some (.slice e), .sl n r o len _ =>
    match P.info? e with
    | some ie => match ie.zero with
      | some z => bif Nat.blt 0 ie.size && Nat.beq z.cells.size ie.size then
          match lk n with
          | some (.own y) => match zerosM y ie z len with
            | some zs => (y.over lk r o zs).mapO fun y' => { val := .v (.tuple #[]), reads := [n], upd := [(n, some (.own y'))] }
            | none => no
          | _ => no
        else no
      | none => no
    | none => no
  | _, _ => no
def effCopy (P : Program) (t : TypeId) (d s : AV) (lk : Nat → Option AB) : Te :=
  match P.underlying t, d with
  | some (.slice e), .sl n r o len _ =>
    match P.info? e with
    | some ie => bif Nat.blt 0 ie.size then
        match lk n with
        | some (.own y) => match s with
          | .sl n' r' o' len' c' => (rowsOf (.sl n' r' o' (Nat.min len' len) c') ie.size lk).bindO fun (z, ns, sp) => match sp with
              | [] => (y.over lk r o z).mapO fun y' => { val := .v (goInt (Nat.min len' len)), reads := n :: ns, upd := [(n, some (.own y'))] }
              | _ => no
          | .v (.slice a len' c') => (rowsOf (.v (.slice a (Nat.min len' len) c')) ie.size lk).bindO fun (z, ns, sp) => match sp with
              | [] => (y.over lk r o z).mapO fun y' => { val := .v (goInt (Nat.min len' len)), reads := n :: ns, upd := [(n, some (.own y'))] }
              | _ => no
          | .se _ _ _ => one { val := .v (goInt 0), reads := [n] }
          | .v (.string b) => T.when (decide (b.size ≤ len)) ((rowsOf (.v (.string b)) ie.size lk).bindO fun (z, ns, sp) => match sp with
              | [] => (y.over lk r o z).mapO fun y' => { val := .v (goInt b.size), reads := n :: ns, upd := [(n, some (.own y'))] }
              | _ => no)
          | _ => no
        | _ => no
      else no
    | none => no
  | _, _ => no
/-! Maps. -/
def simpleKey : TypeDesc → Bool
  | .int _ | .string | .bool => true
  | _ => false
/-- A map's kind of keys, and the zero of its values. -/
def keyOfT (P : Program) (t : TypeId) : Option (TypeDesc × Value) :=
  match P.underlying t with
  | some (.map k e) =>
    match P.underlying k with
    | some u => match (P.info? e).bind (·.zero) with
      | some z => bif simpleKey u then some (u, z) else none
      | none => none
    | none => none
  | _ => none
/-- Which entry has a key. -/
def findT (u : TypeDesc) (k : Value) : List (AV × AV × Nat) → Nat → T (Option (Option Nat))
  | [], _ => .leaf (some none)
  | x :: r, i => match plain x.1 with
    | some y => match Instr.sameNow u k y with
      | some b => .ite b (.leaf (some (some i))) (findT u k r (i + 1))
      | none => .leaf none
    | none => .leaf none
def effMakeMap (P : Program) (t : TypeId) (hint : Option AV) (fr : Nat) : Te :=
  match P.underlying t, hint with
  | some (.map _ _), none => one { val := .mapr fr, news := [(fr, some (.mp [] 0))], nn := 1 }
  | some (.map _ _), some (.v (.int _ _)) => one { val := .mapr fr, news := [(fr, some (.mp [] 0))], nn := 1 }
  | _, _ => no
def foundAt (ok : Bool) (v : AV) (b : Bool) (rd : List Nat) : Te := one { val := bif ok then .tuple [v, .v (.bool b)] else v, reads := rd }
/-- A function by its number. -/
def tabT (ok : Bool) (n : Nat) (x : Int) : List (Int × Nat) → Te
  | [] => no
  | y :: r => .ite (decide (x = y.1)) (foundAt ok (.func (.func y.2) [] []) true [n]) (tabT ok n x r)
/-- Each number has one function. -/
def oneB (es : List (Int × Nat)) : Bool := es.all fun x => es.all fun y => !(x.1 == y.1) || Nat.beq x.2 y.2
def effLookup0 (P : Program) (t : TypeId) (m k : AV) (ok : Bool) (lk : Nat → Option AB) : Te :=
  match keyOfT P t, plain k with
  | some (u, z), some kv =>
    match m with
    | .v (.map none) => foundAt ok (.v z) false []
    | .mapr n => match lk n with
      | some (.mp es _) => (findT u kv es 0).bindO fun
        | none => foundAt ok (.v z) false [n]
        | some i => match es[i]? with
          | some x => foundAt ok x.2.1 true [n]
          | none => no
      | some (.tb q es) => match u, kv with
        | .int q', .int q'' x => bif decide (q' = q ∧ q'' = q) && oneB es then tabT ok n x es else no
        | _, _ => no
      | _ => no
    | _ => no
  | _, _ => no
/-! Maps as data. -/
def Ck.eqB : (c : Ck) → c.den → c.den → Bool
  | .int _, x, y => decide ((x : Int) = y)
  | .bool, x, y => y == x
  | .str, x, y => y == x
  | _, _, _ => false
def rowB : (sh : Sh) → Den sh → Den sh → Bool
  | .nil, _, _ => true
  | .sc c r, x, y => c.eqB (prHd r x) (prHd r y) && rowB r (prTl r x) (prTl r y)
  | _, _, _ => false
/-- Keys are the same. -/
def keyB : (key : Sh) → Den key → Den key → Bool
  | .sc c .nil, x, y => c.eqB x y
  | .ag none row .nil, x, y => rowB row x y
  | _, _, _ => false
def hasK {α β : Type} (eq : α → α → Bool) (l : List (α × β)) (x : α) : Bool := l.any fun e => eq e.1 x
def posK {α β : Type} (eq : α → α → Bool) (l : List (α × β)) (x : α) : Nat := l.findIdx fun e => eq e.1 x
def getK {α β : Type} (eq : α → α → Bool) (l : List (α × β)) (x : α) (d : β) : β := match l[posK eq l x]? with | some e => e.2 | none => d
def putK {α β : Type} (eq : α → α → Bool) (l : List (α × β)) (x : α) (y : β) : List (α × β) := match hasK eq l x with | true => l.set (posK eq l x) (x, y) | false => l ++ [(x, y)]
def delK {α β : Type} (eq : α → α → Bool) (l : List (α × β)) (x : α) : List (α × β) := l.eraseIdx (posK eq l x)
/-- A map's kind of keys, and the zero of its values. -/
def keyT (P : Program) (t : TypeId) : Option (TypeId × TypeDesc × Value) :=
  match P.underlying t with
  | some (.map k e) =>
    match P.underlying k with
    | some u => match (P.info? e).bind (·.zero) with
      | some z => some (k, u, z)
      | none => none
    | none => none
  | _ => none
def keyFits (P : Program) (kt : TypeId) (u : TypeDesc) (key : Sh) : Bool :=
  match u, key with
  | .int q, .sc (.int q') .nil => decide (q = q')
  | .string, .sc .str .nil => true
  | .bool, .sc .bool .nil => true
  | _, _ => false
def okV (ok : Bool) (v : AV) (b : Bool) : AV := bif ok then .tuple [v, .v (.bool b)] else v
def effLookO (P : Program) (t : TypeId) (n : Nat) (k : AV) (ok own : Bool) (key row : Sh) (l : List (Den key × Den row)) (fr : Nat) : Te :=
  match keyT P t, (plain k).bind (decK key) with
  | some (kt, u, z), some x => bif keyFits P kt u key then
      .ite (hasK (keyB key) l x)
        ((scat (!own) row (getK (keyB key) l x (dflt row)) fr).bind fun s => match s.1 with
          | [v] => bif own && !s.2.1.isEmpty then one { val := okV ok v true, reads := [n], upd := [(n, some (.mph true key row l (posK (keyB key) l x) v))], news := s.2.1, nn := s.2.2 - fr }
            else one { val := okV ok v true, reads := [n], news := s.2.1, nn := s.2.2 - fr }
          | _ => no)
        (one { val := okV ok (.v z) false, reads := [n] })
    else no
  | _, _ => no
def effLookH (P : Program) (t : TypeId) (n : Nat) (k : AV) (ok : Bool) (key row : Sh) (l : List (Den key × Den row)) (i : Nat) (v : AV) : Te :=
  match keyT P t, (plain k).bind (decK key) with
  | some (kt, u, _), some x => bif keyFits P kt u key then T.when (hasK (keyB key) l x && Nat.beq (posK (keyB key) l x) i) (one { val := okV ok v true, reads := [n] }) else no
  | _, _ => no
def effLookup (P : Program) (t : TypeId) (m k : AV) (ok : Bool) (lk : Nat → Option AB) (fr : Nat) : Te :=
  match m with
  | .mapr n => match lk n with
    | some (.obj o .map key row l) => effLookO P t n k ok o key row l fr
    | some (.mph _ key row l i v) => effLookH P t n k ok key row l i v
    | _ => effLookup0 P t m k ok lk
  | _ => effLookup0 P t m k ok lk
def effUpdO (P : Program) (t : TypeId) (n : Nat) (k v : AV) (key row : Sh) (l : List (Den key × Den row)) (lk : Nat → Option AB) : Te :=
  match keyT P t, (plain k).bind (decK key) with
  | some (kt, u, _), some x => bif keyFits P kt u key then
      (gat lk false row [v]).bindO fun a => bif nodupB (n :: a.2.1) && allRo lk a.2.2 then
        one { val := .v undef, reads := n :: (a.2.1 ++ a.2.2), upd := (n, some (.obj true .map key row (putK (keyB key) l x a.1))) :: spent a.2.1 } else no
    else no
  | _, _ => no
def effUpdH (P : Program) (t : TypeId) (n : Nat) (k v : AV) (key row : Sh) (l : List (Den key × Den row)) (i : Nat) : Te :=
  match keyT P t, (plain k).bind (decK key) with
  | some (kt, u, _), some x => bif keyFits P kt u key then T.when (hasK (keyB key) l x && Nat.beq (posK (keyB key) l x) i) (one { val := .v undef, reads := [n], upd := [(n, some (.mph true key row l i v))] }) else no
  | _, _ => no
def effDelO (P : Program) (t : TypeId) (n : Nat) (k : AV) (key row : Sh) (l : List (Den key × Den row)) : Te :=
  match keyT P t, (plain k).bind (decK key) with
  | some (kt, u, _), some x => bif keyFits P kt u key then one { val := .v (.tuple #[]), reads := [n], upd := [(n, some (.obj true .map key row (delK (keyB key) l x)))] } else no
  | _, _ => no
def effUpdate0 (P : Program) (t : TypeId) (m k v : AV) (lk : Nat → Option AB) : Te :=
  match keyOfT P t, plain k, m with
  | some (u, _), some kv, .mapr n => match lk n with
    | some (.mp es c) => (findT u kv es 0).bindO fun
      | none => one { val := .v undef, reads := [n], upd := [(n, some (.mp (es ++ [(.v kv, v, c)]) (c + 1)))] }
      | some i => match es[i]? with
        | some x => one { val := .v undef, reads := [n], upd := [(n, some (.mp (es.set i (.v kv, v, x.2.2)) c))] }
        | none => no
    | _ => no
  | _, _, _ => no
def effUpdate (P : Program) (t : TypeId) (m k v : AV) (lk : Nat → Option AB) : Te :=
  match m with
  | .mapr n => match lk n with
    | some (.obj true .map key row l) => effUpdO P t n k v key row l lk
    | some (.mph true key row l i _) => effUpdH P t n k v key row l i
    | _ => effUpdate0 P t m k v lk
  | _ => effUpdate0 P t m k v lk
def effMapEntry (P : Program) (t : TypeId) (m k : AV) (lk : Nat → Option AB) : Te :=
  match keyOfT P t, plain k, m with
  | some (u, z), some kv, .mapr n => match lk n with
    | some (.mp es c) => (findT u kv es 0).bindO fun
      | none => one { val := .tuple [.v z, .v (goInt c)], reads := [n], upd := [(n, some (.mp (es ++ [(.v kv, .v z, c)]) (c + 1)))] }
      | some i => match es[i]? with
        | some x => one { val := .tuple [x.2.1, .v (goInt x.2.2)], reads := [n], upd := [(n, some (.mp (es.set i (.v kv, x.2.1, x.2.2)) c))] }
        | none => no
    | _ => no
  | _, _, _ => no
/-- The entry of a stamp. -/
def stampAt (s : Int) : List (AV × AV × Nat) → Nat → Option Nat
  | [], _ => none
  | x :: r, i => bif decide ((x.2.2 : Int) = s) then some i else stampAt s r (i + 1)
def effEntryStore (m s v : AV) (lk : Nat → Option AB) : Te :=
  match m, s with
  | .mapr n, .v (.int _ b) => match lk n with
    | some (.mp es c) => match stampAt b es 0 with
      | some i => match es[i]? with
        | some x => one { val := .v undef, reads := [n], upd := [(n, some (.mp (es.set i (x.1, v, x.2.2)) c))] }
        | none => no
      | none => no
    | _ => no
  | _, _ => no
def effDelete0 (P : Program) (t : TypeId) (m k : AV) (lk : Nat → Option AB) : Te :=
  match keyOfT P t, plain k, m with
  | some (u, _), some kv, .mapr n => match lk n with
    | some (.mp es c) => (findT u kv es 0).bindO fun
      | none => one { val := .v (.tuple #[]), reads := [n], upd := [(n, some (.mp es c))] }
      | some i => one { val := .v (.tuple #[]), reads := [n], upd := [(n, some (.mp (es.eraseIdx i) c))] }
    | _ => no
  | _, _, _ => no
def effDelete (P : Program) (t : TypeId) (m k : AV) (lk : Nat → Option AB) : Te :=
  match m with
  | .mapr n => match lk n with
    | some (.obj true .map key row l) => effDelO P t n k key row l
    | _ => effDelete0 P t m k lk
  | _ => effDelete0 P t m k lk
def optL (l : List (Option Operand)) : List Operand := l.filterMap id
def effOp (C : Cx) (o : Oper) (t : Operand → AV) (lk : Nat → Option AB) (fr : Nat) : Te :=
  match o.op with
  | .move x => one { val := t x }
  | .assign x => one { val := t x }
  | .pick c a b => effPick (t c) (t a) (t b)
  | .box e x => effBox e (t x) fr
  | .alloc e => effAlloc C.P e fr
  | .build ty parts => effBuild C.P ty (parts.toList.map fun p => (p.1, t p.2))
  | .buildSlice ty len parts => effBuildSlice C.P ty len (parts.toList.map fun p => (p.1, t p.2)) fr
  | .makeSlice ty l c => effMakeSlice C.P C.ms ty (t l) (t c) fr
  | .load ty a => effLoad C.P ty (t a) lk fr
  | .store ty a x => effStore C.P ty (t a) (t x) lk fr
  | .nilCheck x => effNil (t x)
  | .fieldAddr s x f => effField C.P s (t x) f
  | .indexAddr ty x i => effIndex C.P ty (t x) (t i) lk fr
  | .field ty x f => effPart C.P ty (t x) f
  | .index ty x i => effElem C.P ty (t x) (t i)
  | .slice ty x l h m => effSlice C.P ty (t x) (l.map t) (h.map t) (m.map t) lk fr
  | .binOp b ty x y _ => bif C.nan && nanCase b (t x) (t y) then effNan b (t x) (t y) lk fr else effCmp C.P b ty (t x) (t y) lk
  | .convert src dst x => effConvert C.P src dst (t x) lk
  | .extract x i => effExtract (t x) i
  | .makeFunc f first caps => one { val := .func f (first.toList.map t) (caps.toList.map t) }
  | .call ⟨.value f, as, _⟩ => effCall C.K (t f :: as.toList.map t) lk fr
  | .call ⟨.builtin .min, as, _⟩ => effMin (as.toList.map t)
  | .call ⟨.builtin .max, as, _⟩ => effMax (as.toList.map t)
  | .call ⟨.builtin .complex, as, _⟩ => match as.toList with
    | [x, y] => effCx (t x) (t y)
    | _ => no
  | .call ⟨.builtin .real, as, _⟩ => match as.toList with
    | [x] => effRe (t x)
    | _ => no
  | .call ⟨.builtin .imag, as, _⟩ => match as.toList with
    | [x] => effIm (t x)
    | _ => no
  | .call ⟨.builtin .len, as, ts⟩ => match as.toList, ts.toList with
    | [x], [ty] => effLen C.P ty (t x) lk
    | _, _ => no
  | .call ⟨.builtin .cap, as, ts⟩ => match as.toList, ts.toList with
    | [x], [ty] => effCap C.P ty (t x)
    | _, _ => no
  | .call ⟨.builtin .append, as, ts⟩ => match as.toList with
    | [s, x] => effAppend C.P ts (t s) (t x) lk fr
    | _ => no
  | .makeMap ty r => effMakeMap C.P ty (r.map t) fr
  | .lookup ty m k ok => effLookup C.P ty (t m) (t k) ok lk fr
  | .mapUpdate ty m k x => effUpdate C.P ty (t m) (t k) (t x) lk
  | .insert ty m k x => effUpdate C.P ty (t m) (t k) (t x) lk
  | .mapEntry ty m k => effMapEntry C.P ty (t m) (t k) lk
  | .entryStore _ m s x => effEntryStore (t m) (t s) (t x) lk
  | .call ⟨.builtin .clear, as, ts⟩ => match as.toList, ts.toList with
    | [x], [ty] => effClear C.P ty (t x) lk
    | _, _ => no
  | .call ⟨.builtin .copy, as, ts⟩ => match as.toList, ts.toList with
    | [d, x], ty :: _ => effCopy C.P ty (t d) (t x) lk
    | _, _ => no
  | .call ⟨.builtin .delete, as, ts⟩ => match as.toList, ts.toList with
    | [m, k], ty :: _ => effDelete C.P ty (t m) (t k) lk
    | _, _ => no
  | _ => no
/-- Operations whose effect looks at the names' blocks, or that have no other rule. -/
def hasRule : Op → Bool
  | .load .. | .store .. | .indexAddr .. | .slice .. | .box .. | .alloc .. | .buildSlice .. | .makeSlice .. | .pick .. | .move .. | .assign .. | .build .. | .makeFunc .. | .index .. => true
  | .call ⟨.value _, _, _⟩ => true
  | .call ⟨.builtin .append, _, _⟩ => true
  | .makeMap .. | .lookup .. | .mapUpdate .. | .insert .. | .mapEntry .. | .entryStore .. => true
  | .call ⟨.builtin .delete, _, _⟩ => true
  | .call ⟨.builtin .clear, _, _⟩ => true
  | .call ⟨.builtin .copy, _, _⟩ => true
  | _ => false
/-- All operands are known. -/
def allKnown (t : Operand → AV) : List Operand → Bool
  | [] => true
  | x :: r => !isAny (t x) && allKnown t r
def floatB : BinOp → Bool
  | .add | .sub | .mul | .quo | .eql | .neq | .lss | .leq | .gtr | .geq => true
  | _ => false
def isFlt : AV → Bool
  | .v (.float ..) | .v (.complex ..) => true
  | _ => false
def divB : BinOp → Bool
  | .quo | .rem | .shl | .shr => true
  | _ => false
def isInt : AV → Bool
  | .v (.int ..) => true
  | _ => false
def isConst : Operand → Bool
  | .const _ => true
  | _ => false
def fltArgs (t : Operand → AV) : List Operand → Bool
  | [x, y] => isFlt (t x) && isFlt (t y)
  | _ => false
/-- Compound values that are compared part by part; floats. -/
def aggEq (P : Program) (t : Operand → AV) : Op → Bool
  | .binOp b ty x y _ => (isAgg (t x) && isAgg (t y) && (eqB P ty (t x) (t y)).isSome) || (floatB b && isFlt (t x) && isFlt (t y)) || (divB b && isInt (t x) && isInt (t y) && !isConst y)
  | .call ⟨.builtin .min, as, _⟩ => fltArgs t as.toList
  | .call ⟨.builtin .max, as, _⟩ => fltArgs t as.toList
  | _ => false
/-- First the model's own meaning on plain values, else the rule. -/
def eff (C : Cx) (o : Oper) (t : Operand → AV) (lk : Nat → Option AB) (fr : Nat) : Te :=
  bif !allKnown t o.op.operands.toList then no else
  bif hasRule o.op then effOp C o t lk fr else
  bif noSel o.op && allPlain t o.op.operands.toList && !aggEq C.P t o.op then
    match effPure C.P o t with
    | some e => one e
    | none => effOp C o t lk fr
  else effOp C o t lk fr
end Go.Proofs.YtpfbpcaehmhefaaDoorB.Sx
