/- Parts of the proof: The framework of these proofs, part A: a reader of code (symbolic evaluation by definitional unfolding) and its soundnes The framework, part B: that what the reader says of an operation, a region, a body is true of the model. The framework, part C: regions, bodies, loops, functions. No condition ahead of any statement but its own. -/
import Derived.WalkKit
import Derived.Below
import Derived.KernelRfl
import Derived.Defers
import Derived.Laws.Sem
import Derived.Deep.LoopGhost
import Derived.Orders
import Derived.Deep.Quiet
import Derived.Maps.AppendAt
import Derived.Laws.OwnMore
import Derived.Laws.IdiomRangeMap
import Derived.Laws.StructEq
import Derived.Laws.Append
set_option maxHeartbeats 4000000
/-!  The framework of these proofs, part A: a reader of code (symbolic evaluation by definitional unfolding) and its soundness over 'Code.wp'. -/
set_option linter.unusedVariables false
set_option linter.unusedSimpArgs false
namespace Go.Proofs.YtfeegacmmfgjfaaGreatDoorX
open Go

/-! ## What is known of the slots -/
abbrev Env := List (Nat × Value)
def look : Env → Nat → Option Value
  | [], _ => none
  | (j, v) :: r, i => match Nat.beq j i with
    | true => some v
    | false => look r i
def Fits (n : Nat) (E : Env) (t : Array Value) : Prop := t.size = n ∧ ∀ i v, look E i = some v → t[i]? = some v
theorem Fits.put {n : Nat} {E : Env} {t : Array Value} (h : Fits n E t) {d : Nat} (v : Value) (hd : d < n) : Fits n ((d, v) :: E) (t.setIfInBounds d v) := by
  refine ⟨by simpa using h.1, fun i u hi => ?_⟩
  simp only [look] at hi
  split at hi
  · rename_i hb
    obtain rfl : d = i := Nat.eq_of_beq_eq_true hb
    cases hi
    rw [Array.getElem?_setIfInBounds_self_of_lt (by rw [h.1]; exact hd)]
  · rename_i hb
    have hne : d ≠ i := Nat.ne_of_beq_eq_false hb
    rw [Array.getElem?_setIfInBounds_ne hne]
    exact h.2 i u hi
def ev (E : Env) : Operand → Option Value
  | .tmp t => look E t
  | .const v => some v
  | .global g => some (.pointer (some ⟨g, 0, none⟩))
  | .func f => some (.func (.func f) #[] #[])
theorem Fits.eval {n : Nat} {E : Env} {a : Act} (h : Fits n E a.tmps) {x : Operand} {v : Value} (he : ev E x = some v) : a.eval x = v := by
  cases x with
  | tmp t => simp only [ev] at he; simp [Act.eval, Array.getD_eq_getD_getElem?, h.2 t v he]
  | const c => simpa [ev, Act.eval] using he
  | global g => simpa [ev, Act.eval] using he
  | func f => simpa [ev, Act.eval] using he

/-! ## Types -/
inductive TD where
  | int (k : IntKind) | bool | str | ptr | slice (e : TypeId) | struct (fs : List (Nat × TypeId)) | map (k e : TypeId) | iface | other
structure TI where
  td : TD
  size : Nat
  bytes : Nat
  zero : Value
abbrev TT := TypeId → Option TI
abbrev tlook (τ : TT) (t : TypeId) : Option TI := τ t
def TD.ok (P : Program) (t : TypeId) : TD → Prop
  | .int k => P.underlying t = some (.int k)
  | .bool => P.underlying t = some .bool
  | .str => P.underlying t = some .string
  | .ptr => ∃ e, P.underlying t = some (.pointer e)
  | .slice e => P.underlying t = some (.slice e)
  | .struct fs => ∃ fields, P.underlying t = some (.struct fields) ∧ fields.toList.map (fun f => (f.offset, f.type)) = fs
  | .map k e => P.underlying t = some (.map k e)
  | .iface => ∃ ms, P.underlying t = some (.interface ms)
  | .other => ∃ p r v, P.underlying t = some (.func p r v)
structure TI.ok (P : Program) (t : TypeId) (i : TI) : Prop where
  inf : (P.info? t).map (fun i => (i.zero, i.size, i.bytes)) = some (some i.zero, i.size, i.bytes)
  kind : i.td.ok P t
def TOk (P : Program) (τ : TT) : Prop := ∀ t i, tlook τ t = some i → i.ok P t
def tleaf (j : TypeId) (i : TI) : TT := fun t => match Nat.beq j t with
  | true => some i
  | false => none
def tnode (k : Nat) (l r : TT) : TT := fun t => match Nat.ble t k with
  | true => l t
  | false => r t
theorem TOk.leaf {P : Program} {t : TypeId} {i : TI} (h : i.ok P t) : TOk P (tleaf t i) := by
  intro u j hj
  simp only [tleaf] at hj
  split at hj
  · rename_i hb
    obtain rfl : t = u := Nat.eq_of_beq_eq_true hb
    cases hj
    exact h
  · cases hj
theorem TOk.node {P : Program} {k : Nat} {l r : TT} (hl : TOk P l) (hr : TOk P r) : TOk P (tnode k l r) := by
  intro u j hj
  simp only [tnode] at hj
  split at hj
  · exact hl u j hj
  · exact hr u j hj
def TD.agg : TD → Bool
  | .struct _ => true
  | _ => false
theorem TI.ok.info {P : Program} {t : TypeId} {i : TI} (h : i.ok P t) : ∃ f, P.info? t = some f ∧ f.zero = some i.zero ∧ f.size = i.size ∧ f.bytes = i.bytes := by
  obtain ⟨f, hf, he⟩ := Option.map_eq_some_iff.1 h.inf
  simp only [Prod.mk.injEq] at he
  exact ⟨f, hf, he⟩
theorem TI.ok.run_sizeOf {P : Program} {t : TypeId} {i : TI} (h : i.ok P t) (w : World) : (sizeOf t).run P w = .ok i.size w := by
  obtain ⟨f, hf, _, hs, _⟩ := h.info
  simp [sizeOf, typeInfo, hf, hs]
theorem TI.ok.run_zero {P : Program} {t : TypeId} {i : TI} (h : i.ok P t) (w : World) : (zeroValue t).run P w = .ok i.zero w := by
  obtain ⟨f, hf, hz, _, _⟩ := h.info
  simp [zeroValue, typeInfo, hf, hz]
theorem TI.ok.run_isAgg {P : Program} {t : TypeId} {i : TI} (h : i.ok P t) (w : World) : (isAgg t).run P w = .ok i.td.agg w := by
  have h2 := h.kind
  cases i with
  | mk td s b z =>
    cases td with
    | int k => simp [isAgg, Go.run_underlying h2, TD.agg]
    | bool => simp [isAgg, Go.run_underlying h2, TD.agg]
    | str => simp [isAgg, Go.run_underlying h2, TD.agg]
    | ptr => obtain ⟨e, h2⟩ := h2; simp [isAgg, Go.run_underlying h2, TD.agg]
    | slice e => simp [isAgg, Go.run_underlying h2, TD.agg]
    | struct fs => obtain ⟨e, h2, _⟩ := h2; simp [isAgg, Go.run_underlying h2, TD.agg]
    | map k e => simp [isAgg, Go.run_underlying h2, TD.agg]
    | iface => obtain ⟨e, h2⟩ := h2; simp [isAgg, Go.run_underlying h2, TD.agg]
    | other => obtain ⟨_, _, _, h2⟩ := h2; simp [isAgg, Go.run_underlying h2, TD.agg]

/-! ## The goals that an operation leaves -/
/-- What is not looked into: said of the operation itself. -/
structure SemOp (P : Program) (op : Op) (ty : TypeId) (E : Env) (w : World) (K : Value → World → Prop) : Prop where
  out : ∀ (ρ : Operand → Value) (o : Oper), (∀ x v, ev E x = some v → ρ x = v) → o.op = op → o.type = ty →
    (∃ v w', (execOp ρ o).run P w = .ok (.value v) w' ∧ K v w') ∨ (∃ w', (execOp ρ o).run P w = .ok .skip w' ∧ K undef w')
/-- A call that returns. -/
structure Ret (P : Program) (f : FuncId) (args : Array Value) (w : World) (R : Value → World → Prop) : Prop where
  fn : ∃ fn, P.funcs[f]? = some fn ∧ (fn.name == "runtime.NumGoroutine") = false ∧ fn.body.isNone = false
  calls : Calls P f args w fun e w' => ∃ v, e = .returned v ∧ R v w'
theorem Ret.mono {P : Program} {f : FuncId} {args : Array Value} {w : World} {R R' : Value → World → Prop} (h : Ret P f args w R) (hr : ∀ v w', R v w' → R' v w') : Ret P f args w R' := by
  exact ⟨h.1, h.2.mono fun e w' ⟨v, he, hR⟩ => ⟨v, he, hr v w' hR⟩⟩
theorem Ret.of {P : Program} {f : FuncId} {fn : Func} {args : Array Value} {w : World} {R : Value → World → Prop} (hf : P.funcs[f]? = some fn) (hn : (fn.name == "runtime.NumGoroutine") = false) (hb : fn.body.isNone = false)
    (h : Calls P f args w fun e w' => ∃ v, e = .returned v ∧ R v w') : Ret P f args w R := by
  exact ⟨⟨fn, hf, hn, hb⟩, h⟩
/-- A test. -/
def condP (c : Bool) (A B : Prop) : Prop := match c with
  | true => A
  | false => B
theorem dec_ex (p : Prop) : ∃ b : Bool, b = true ↔ p := by
  by_cases h : p
  · exact ⟨true, by simp [h]⟩
  · exact ⟨false, by simp [h]⟩
/-- Whether p holds (nothing can be computed of it). -/
noncomputable def dec (p : Prop) : Bool := Classical.choose (dec_ex p)
theorem dec_iff (p : Prop) : dec p = true ↔ p := Classical.choose_spec (dec_ex p)
theorem dec_true {p : Prop} (h : p) : dec p = true := (dec_iff p).2 h
theorem dec_false {p : Prop} (h : ¬ p) : dec p = false := by
  cases hd : dec p with
  | false => rfl
  | true => exact absurd ((dec_iff p).1 hd) h
theorem dec_eq (p : Prop) [Decidable p] : dec p = decide p := by
  by_cases h : p
  · rw [dec_true h, decide_eq_true h]
  · rw [dec_false h, decide_eq_false h]
def bnot (b : Bool) : Bool := !b
theorem bnot_eq (b : Bool) : bnot b = !b := by unfold bnot; rfl
theorem condP_dec {p : Prop} {A B : Prop} (h : p → A) (h' : ¬ p → B) : condP (dec p) A B := by
  by_cases hp : p
  · rw [dec_true hp]; exact h hp
  · rw [dec_false hp]; exact h' hp
theorem condP_yes {p : Prop} {A B : Prop} (hp : p) (h : A) : condP (dec p) A B := by rw [dec_true hp]; exact h
theorem condP_no {p : Prop} {A B : Prop} (hp : ¬ p) (h : B) : condP (dec p) A B := by rw [dec_false hp]; exact h
theorem condP_not {b : Bool} {A B : Prop} (h : condP b B A) : condP (bnot b) A B := by rw [bnot_eq]; cases b <;> exact h
theorem condP_cases {b : Bool} {A B : Prop} (h : b = true → A) (h' : b = false → B) : condP b A B := by cases b; exact h' rfl; exact h rfl
/-- A number that may wrap: bare where it fits. -/
structure numP (k : IntKind) (x : Int) (K : Int → Prop) : Prop where
  out : K (k.wrap x)
theorem numP_wrap {k : IntKind} {x : Int} {K : Int → Prop} (h : K (k.wrap x)) : numP k x K := ⟨h⟩
theorem wrap_i64 {x : Int} (hx : -9223372036854775808 ≤ x ∧ x ≤ 9223372036854775807) : IntKind.i64.wrap x = x := by
  show (if (true && decide (x % (2 ^ 64 : Int) ≥ (2 ^ 63 : Int))) = true then _ else _) = _
  simp only [Bool.true_and, decide_eq_true_eq]
  have h1 : (2 ^ 64 : Int) = 18446744073709551616 := rfl
  have h2 : (2 ^ 63 : Int) = 9223372036854775808 := rfl
  show (if x % (2 ^ 64 : Int) ≥ (2 ^ 63 : Int) then x % (2 ^ 64 : Int) - (2 ^ 64 : Int) else x % (2 ^ 64 : Int)) = x
  rw [h1, h2]
  split <;> omega
theorem numP_i64 {x : Int} {K : Int → Prop} (hx : -9223372036854775808 ≤ x ∧ x ≤ 9223372036854775807) (h : K x) : numP .i64 x K := by
  refine ⟨?_⟩
  rw [wrap_i64 hx]; exact h
theorem numP_u64 {x : Int} {K : Int → Prop} (hx : 0 ≤ x ∧ x ≤ 18446744073709551615) (h : K x) : numP .u64 x K := by
  refine ⟨?_⟩
  have : IntKind.u64.wrap x = x := by
    simp only [IntKind.wrap, IntKind.bits, IntKind.signed]
    simp only [Nat.reduceSub, Int.reducePow, Bool.false_and, Bool.false_eq_true, if_false]
    omega
  rw [this]; exact h
theorem numP_u8 {x : Int} {K : Int → Prop} (hx : 0 ≤ x ∧ x ≤ 255) (h : K x) : numP .u8 x K := by
  refine ⟨?_⟩
  have : IntKind.u8.wrap x = x := by
    simp only [IntKind.wrap, IntKind.bits, IntKind.signed]
    simp only [Nat.reduceSub, Int.reducePow, Bool.false_and, Bool.false_eq_true, if_false]
    omega
  rw [this]; exact h
/-- A byte of a string. -/
def byteAt (s : ByteArray) (i : Int) : Int := ((s.data.toList.getD i.toNat 0).toNat : Int)
noncomputable def strEq (a b : ByteArray) : Bool := dec ((a.toList == b.toList) = true)
theorem strEq_def (a b : ByteArray) : strEq a b = (a.toList == b.toList) := by unfold strEq; rw [dec_eq]; cases a.toList == b.toList <;> rfl
noncomputable def strLt (a b : ByteArray) : Bool := dec (Op.bytesLess a.toList b.toList = true)
theorem strLt_def (a b : ByteArray) : strLt a b = Op.bytesLess a.toList b.toList := by unfold strLt; rw [dec_eq]; cases Op.bytesLess a.toList b.toList <;> rfl
def bor (a b : Bool) : Bool := a || b
/-- Cells in a row. -/
structure CellsAt (w : World) (a : Addr) (cs : List Value) : Prop where
  out : ∀ j u, cs[j]? = some u → w.cell? (a.add j) = some u
def kix : IntKind → Nat
  | .i8 => 0 | .i16 => 1 | .i32 => 2 | .i64 => 3 | .u8 => 4 | .u16 => 5 | .u32 => 6 | .u64 => 7
theorem kix_inj {a b : IntKind} (h : Nat.beq (kix a) (kix b) = true) : a = b := by cases a <;> cases b <;> first | rfl | cases h
def sameK (k k' : IntKind) (A : Prop) : Prop := match Nat.beq (kix k) (kix k') with
  | false => False
  | true => A
theorem sameK.out {k k' : IntKind} {A : Prop} (h : sameK k k' A) : k = k' ∧ A := by
  unfold sameK at h
  split at h
  · exact h.elim
  · rename_i hk; exact ⟨kix_inj hk, h⟩
theorem sameK.of {k : IntKind} {A : Prop} (h : A) : sameK k k A := by cases k <;> exact h
noncomputable def xbin (op : BinOp) (x y : Value) (w : World) (K : Value → World → Prop) (else_ : Prop) : Prop :=
  match x, y with
  | .int k a, .int k' b => match op with
    | .shl => 0 ≤ b ∧ numP k (a * 2 ^ (min b.toNat k.bits)) (fun z => K (.int k z) w)
    | .shr => 0 ≤ b ∧ K (.int k (a.fdiv (2 ^ (min b.toNat k.bits)))) w
    | op => sameK k k' <| match op with
        | .add => numP k (a + b) (fun z => K (.int k z) w)
        | .sub => numP k (a - b) (fun z => K (.int k z) w)
        | .mul => numP k (a * b) (fun z => K (.int k z) w)
        | .quo => b ≠ 0 ∧ numP k (a.tdiv b) (fun z => K (.int k z) w)
        | .rem => b ≠ 0 ∧ K (.int k (a.tmod b)) w
        | .eql => K (.bool (dec (a = b))) w
        | .neq => K (.bool (bnot (dec (a = b)))) w
        | .lss => K (.bool (dec (a < b))) w
        | .leq => K (.bool (dec (a ≤ b))) w
        | .gtr => K (.bool (dec (b < a))) w
        | .geq => K (.bool (dec (b ≤ a))) w
        | _ => else_
  | .string a, .string b => match op with
    | .add => ((a.size + b.size : Nat) : Int) ≤ 9223372036854775807 ∧ K (.string (a ++ b)) w
    | .eql => K (.bool (strEq a b)) w
    | .neq => K (.bool (bnot (strEq a b))) w
    | .lss => K (.bool (strLt a b)) w
    | .leq => K (.bool (bor (strLt a b) (strEq a b))) w
    | .gtr => K (.bool (bnot (bor (strLt a b) (strEq a b)))) w
    | .geq => K (.bool (bnot (strLt a b))) w
    | _ => False
  | _, _ => else_
theorem xbin_sound {P : Program} {op : BinOp} {t : TypeId} {x y : Operand} {a b : Value} {w : World} {K : Value → World → Prop} {else_ : Prop} (h : xbin op a b w K else_)
    (he : else_ → ∃ v w', (do eqGuard op t x y a b; binOp op t a b : Sem Value).run P w = .ok v w' ∧ K v w') :
    ∃ v w', (do eqGuard op t x y a b; binOp op t a b : Sem Value).run P w = .ok v w' ∧ K v w' := by
  unfold xbin at h
  have hi : ∀ (k k' : IntKind) (p q : Int), (eqGuard op t x y (.int k p) (.int k' q)).run P w = .ok () w := by
    intro k k' p q; unfold eqGuard; cases op <;> simp
  have hs : ∀ (p q : ByteArray), (eqGuard op t x y (.string p) (.string q)).run P w = .ok () w := by
    intro p q; unfold eqGuard; cases op <;> simp
  split at h
  · rename_i k p k' q
    rw [Sem.run_bind, hi, Result.andThen_ok]
    cases op
    case shl => obtain ⟨h0, ⟨h⟩⟩ := h; exact ⟨_, _, by simp [binOp, Op.shift, show ¬ q < 0 by omega], h⟩
    case shr => obtain ⟨h0, h⟩ := h; exact ⟨_, _, by simp [binOp, Op.shift, show ¬ q < 0 by omega], h⟩
    case add => obtain ⟨rfl, ⟨h2⟩⟩ := h.out; exact ⟨_, _, by simp [binOp, Op.intArith], h2⟩
    case sub => obtain ⟨rfl, ⟨h2⟩⟩ := h.out; exact ⟨_, _, by simp [binOp, Op.intArith], h2⟩
    case mul => obtain ⟨rfl, ⟨h2⟩⟩ := h.out; exact ⟨_, _, by simp [binOp, Op.intArith], h2⟩
    case quo => obtain ⟨rfl, h0, ⟨h2⟩⟩ := h.out; exact ⟨_, _, by simp [binOp, Op.intDiv, h0], h2⟩
    case rem => obtain ⟨rfl, h0, h2⟩ := h.out; exact ⟨_, _, by simp [binOp, Op.intDiv, h0], h2⟩
    case eql => obtain ⟨rfl, h2⟩ := h.out; exact ⟨_, _, by simp [binOp, Op.intCmp, dec_eq]; exact rfl, h2⟩
    case neq => obtain ⟨rfl, h2⟩ := h.out; exact ⟨_, _, by simp [binOp, Op.intCmp, dec_eq, bnot_eq, bne]; exact rfl, h2⟩
    case lss => obtain ⟨rfl, h2⟩ := h.out; exact ⟨_, _, by simp [binOp, Op.intCmp, dec_eq], h2⟩
    case leq => obtain ⟨rfl, h2⟩ := h.out; exact ⟨_, _, by simp [binOp, Op.intCmp, dec_eq], h2⟩
    case gtr => obtain ⟨rfl, h2⟩ := h.out; exact ⟨_, _, by simp [binOp, Op.intCmp, dec_eq], h2⟩
    case geq => obtain ⟨rfl, h2⟩ := h.out; exact ⟨_, _, by simp [binOp, Op.intCmp, dec_eq], h2⟩
    all_goals
      obtain ⟨rfl, h2⟩ := h.out
      obtain ⟨v, w', hr, hK⟩ := he h2
      rw [Sem.run_bind, hi, Result.andThen_ok] at hr
      exact ⟨v, w', hr, hK⟩
  · rename_i p q
    rw [Sem.run_bind, hs, Result.andThen_ok]
    have hm : IntKind.i64.max = 9223372036854775807 := rfl
    cases op <;> simp only [] at h
    case add => obtain ⟨h0, h⟩ := h; exact ⟨_, _, by simp only [binOp, Op.stringOp, hm]; rw [if_neg (by omega)]; exact rfl, h⟩
    case eql => exact ⟨_, _, by simp only [binOp, Op.stringOp]; exact rfl, by rw [strEq_def] at h; exact h⟩
    case neq => exact ⟨_, _, by simp only [binOp, Op.stringOp]; exact rfl, by unfold bnot at h; rw [strEq_def] at h; exact h⟩
    case lss => exact ⟨_, _, by simp only [binOp, Op.stringOp]; exact rfl, by rw [strLt_def] at h; exact h⟩
    case leq => exact ⟨_, _, by simp only [binOp, Op.stringOp]; exact rfl, by unfold bor at h; rw [strEq_def, strLt_def] at h; exact h⟩
    case gtr => exact ⟨_, _, by simp only [binOp, Op.stringOp]; exact rfl, by unfold bnot bor at h; rw [strEq_def, strLt_def] at h; exact h⟩
    case geq => exact ⟨_, _, by simp only [binOp, Op.stringOp]; exact rfl, by unfold bnot at h; rw [strLt_def] at h; exact h⟩
    all_goals exact h.elim
  · exact he h

/-! ## One operation -/
def beqb (p q : Bool) : Bool := p == q
structure NewB (w : World) (o : Obj) (b : Nat) (w' : World) : Prop where
  hb : b = w.heap.size
  hw : w' = w.alloc o
structure SetB (w : World) (a : Addr) (v : Value) (w' : World) : Prop where
  hw : w' = w.setCell a v
def lget : List Value → Nat → Option Value
  | [], _ => none
  | v :: _, 0 => some v
  | _ :: r, i + 1 => lget r i
theorem lget_eq (l : List Value) (i : Nat) : lget l i = l[i]? := by
  induction l generalizing i with
  | nil => simp [lget]
  | cons v r ih => cases i <;> simp [lget, ih]
def fget : List (Nat × TypeId) → Nat → Option (Nat × TypeId)
  | [], _ => none
  | v :: _, 0 => some v
  | _ :: r, i + 1 => fget r i
theorem fget_eq (l : List (Nat × TypeId)) (i : Nat) : fget l i = l[i]? := by
  induction l generalizing i with
  | nil => simp [fget]
  | cons v r ih => cases i <;> simp [fget, ih]
def cutA (A : Option Addr) (m l sz : Nat) : Option Addr := if m = l then A else A.map (·.add (l * sz))
theorem cutA_zero (A : Option Addr) (m sz : Nat) : cutA A m 0 sz = A := by
  unfold cutA
  split
  · rfl
  · rw [Nat.zero_mul]
    cases A <;> simp [Addr.add]
def evs (E : Env) : List Operand → (List Value → Prop) → Prop
  | [], k => k []
  | x :: r, k => match ev E x with
    | some v => evs E r fun vs => k (v :: vs)
    | none => False
def Value.one : Value → Prop
  | .agg _ | .tuple _ => False
  | _ => True
/-- 'putAt cells off vs': vs written over cells from off on. -/
def putAt (cells : List Value) (off : Nat) : List Value → List Value
  | [] => cells
  | v :: r => putAt (cells.set off v) (off + 1) r
def cellsOf : Value → List Value
  | .agg cs => cs.toList
  | v => [v]
def xfill (τ : TT) (fs : List (Nat × TypeId)) (E : Env) : List (Nat × Operand) → List Value → (List Value → Prop) → Prop
  | [], cells, k => k cells
  | (i, x) :: r, cells, k => match ev E x, fget fs i with
    | some v, some (off, t) => match tlook τ t with
      | some ti => match Nat.beq (cellsOf v).length ti.size, Nat.ble (off + ti.size) cells.length with
        | true, true => xfill τ fs E r (putAt cells off (cellsOf v)) k
        | _, _ => False
      | none => False
    | _, _ => False
def xfillE (sz : Nat) (E : Env) : List (Nat × Operand) → List Value → (List Value → Prop) → Prop
  | [], cells, k => k cells
  | (i, x) :: r, cells, k => match ev E x with
    | some v => match Nat.beq (cellsOf v).length sz, Nat.ble (i * sz + sz) cells.length with
      | true, true => xfillE sz E r (putAt cells (i * sz) (cellsOf v)) k
      | _, _ => False
    | none => False
def allIn (τ : TT) : List (Nat × TypeId) → Bool
  | [] => true
  | (_, t) :: r => match tlook τ t with
    | some _ => allIn τ r
    | none => false
def repl (z : List Value) : Nat → List Value
  | 0 => []
  | n + 1 => z ++ repl z n
def optI (E : Env) (d : Int) : Option Operand → Option Int
  | none => some d
  | some x => match ev E x with
    | some (.int _ i) => some i
    | _ => none
def imax (a b : Int) : Int := if b > a then b else a
def imin (a b : Int) : Int := if b < a then b else a
/-- Told of code whose order is drawn ('st'): what is not looked into is not let in. -/
def fall (st : Bool) (A : Prop) : Prop := match st with
  | true => False
  | false => A
noncomputable def xop (P : Program) (τ : TT) (st : Bool) (op : Op) (ty : TypeId) (E : Env) (w : World) (K : Value → World → Prop) : Prop :=
  match op with
  | .move x => (match ev E x with | some v => K v w | none => False)
  | .assign x => (match ev E x with | some v => K v w | none => False)
  | .pick c a b => (match ev E c, ev E a, ev E b with
    | some (.bool c), some va, some vb => condP c (K va w) (K vb w)
    | _, _, _ => False)
  | .alloc t => (match tlook τ t with
    | some i => ∀ b w', NewB w (.cells (cellsOf i.zero).toArray t) b w' → K (.pointer (some ⟨b, 0, none⟩)) w'
    | none => fall st (SemOp P (.alloc t) ty E w K))
  | .box t x => (match ev E x with
    | some v => ∀ b w', NewB w (.cells (cellsOf v).toArray t) b w' → K (.pointer (some ⟨b, 0, none⟩)) w'
    | none => False)
  | .build t parts => (match tlook τ t with
    | some i => (match i.td with
      | .struct fs => (match allIn τ fs with
        | true => xfill τ fs E parts.toList (cellsOf i.zero) fun cs => K (.agg cs.toArray) w
        | false => False)
      | _ => fall st (SemOp P (.build t parts) ty E w K))
    | none => False)
  | .buildSlice t len parts => (match tlook τ t with
    | some i => (match i.td with
      | .slice e => (match tlook τ e with
        | some j => (match Nat.ble (len * j.size) 16777216, Nat.beq (cellsOf j.zero).length j.size with
          | true, true => xfillE j.size E parts.toList (repl (cellsOf j.zero) len) fun cs => ∀ b w', NewB w (.cells cs.toArray e) b w' → K (.slice (some ⟨b, 0, none⟩) len len) w'
          | _, _ => False)
        | none => False)
      | _ => False)
    | none => False)
  | .load t x => (match ev E x with
    | some (.pointer (some a)) => (match tlook τ t with
      | some i => (match i.td with
        | .struct _ => ∃ cs : List Value, cs.length = i.size ∧ CellsAt w a cs ∧ K (.agg cs.toArray) w
        | _ => ∃ v, w.cell? a = some v ∧ K v w)
      | none => False)
    | _ => False)
  | .store t x y => (match ev E x, ev E y with
    | some (.pointer (some a)), some v => (match tlook τ t with
      | some i => (match i.td with
        | .struct _ => (cellsOf v).length = i.size ∧ ∃ w', (storeCells a (cellsOf v)).run P w = .ok () w' ∧ K undef w'
        | _ => i.size = 1 ∧ Value.one v ∧ (∃ v0, w.cell? a = some v0 ∧ w.frozen? a = false) ∧ ∀ w', SetB w a v w' → K undef w')
      | none => False)
    | _, _ => False)
  | .nilCheck x => (match ev E x with
    | some (.pointer (some a)) => K (.pointer (some a)) w
    | some (.func (.func f) fi ca) => K (.func (.func f) fi ca) w
    | some (.iface t v) => K (.iface t v) w
    | _ => False)
  | .binOp op t x y yt => (match ev E x, ev E y with
    | some (.bool p), some (.bool q) => (match op, tlook τ t with
      | .eql, some ⟨.bool, _, _, _⟩ => K (.bool (beqb p q)) w
      | .neq, some ⟨.bool, _, _, _⟩ => K (.bool (bnot (beqb p q))) w
      | _, _ => fall st (SemOp P (.binOp op t x y yt) ty E w K))
    | some a, some b => xbin op a b w K (fall st (SemOp P (.binOp op t x y yt) ty E w K))
    | _, _ => False)
  | .unOp op t x => (match op, ev E x with
    | .not, some (.bool b) => K (.bool (bnot b)) w
    | .neg, some (.int k n) => numP k (0 - n) fun z => K (.int k z) w
    | _, _ => fall st (SemOp P (.unOp op t x) ty E w K))
  | .convert s t x => (match ev E x, tlook τ s, tlook τ t with
    | some (.int _ n), some _, some ⟨.int k, _, _, _⟩ => numP k n fun z => K (.int k z) w
    | some (.string v), some _, some ⟨.str, _, _, _⟩ => K (.string v) w
    | _, _, _ => fall st (SemOp P (.convert s t x) ty E w K))
  | .makeInterface t x => (match ev E x, tlook τ t with
    | some v, some ⟨.iface, _, _, _⟩ => False
    | some v, some _ => K (.iface t v) w
    | _, _ => False)
  | .makeFunc fn first captured => evs E first.toList fun fi => evs E captured.toList fun ca => K (.func fn fi.toArray ca.toArray) w
  | .makeMap t r => (match r with
    | none => ∀ b w', NewB w (.map #[] 0) b w' → K (.map (some b)) w'
    | some _ => False)
  | .makeSlice t l c => (match ev E l, ev E c, tlook τ t with
    | some (.int _ l), some (.int _ c), some ⟨.slice e, _, _, _⟩ => (match tlook τ e with
      | some ⟨_, 1, bytes, z⟩ => (0 ≤ l ∧ l ≤ c ∧ c ≤ 140737488355328 ∧ c * bytes ≤ 140737488355328) ∧ (cellsOf z = [z]) ∧ ∀ b w', NewB w (.cells (List.replicate c.toNat z).toArray e) b w' → K (.slice (some ⟨b, 0, none⟩) l.toNat c.toNat) w'
      | _ => False)
    | _, _, _ => False)
  | .slice t x lo hi mx => (match mx with
    | some _ => fall st (SemOp P (.slice t x lo hi mx) ty E w K)
    | none => (match ev E x, tlook τ t with
      | some (.string s), some ⟨.str, _, _, _⟩ => (match optI E 0 lo, optI E s.size hi with
        | some l, some h => (0 ≤ l ∧ l ≤ h ∧ h ≤ s.size) ∧ K (.string (s.extract l.toNat h.toNat)) w
        | _, _ => False)
      | some (.slice A n c), some ⟨.slice e, _, _, _⟩ => (match optI E 0 lo, optI E n hi, tlook τ e with
        | some l, some h, some i => (0 ≤ l ∧ l ≤ h ∧ h ≤ c) ∧ (match lo with
          | none => K (.slice A h.toNat c) w
          | some _ => K (.slice (cutA A c l.toNat i.size) (h.toNat - l.toNat) (c - l.toNat)) w)
        | _, _, _ => False)
      | _, _ => fall st (SemOp P (.slice t x lo hi mx) ty E w K)))
  | .fieldAddr s x f => (match ev E x, tlook τ s with
    | some (.pointer (some a)), some ⟨.struct fs, _, _, _⟩ => (match fget fs f with
      | some (off, t) => (match tlook τ t with
        | some i => (match Nat.beq i.size 0 with
          | false => K (.pointer (some (a.add off))) w
          | true => False)
        | none => False)
      | none => False)
    | _, _ => False)
  | .field s x f => (match ev E x, tlook τ s with
    | some (.agg cs), some ⟨.struct fs, _, _, _⟩ => (match fget fs f with
      | some (off, t) => (match tlook τ t with
        | some i => (match i.td with
          | .struct _ => K (.agg (cs.extract off (off + i.size))) w
          | _ => (match lget cs.toList off with
            | some v => K v w
            | none => False))
        | none => False)
      | none => False)
    | _, _ => False)
  | .indexAddr t x ix => (match ev E x, ev E ix, tlook τ t with
    | some (.slice A n c), some (.int _ i), some ⟨.slice e, _, _, _⟩ => (match tlook τ e with
      | some j => (0 ≤ i ∧ i < n) ∧ ∃ a, A = some a ∧ K (.pointer (some (a.add (i.toNat * j.size)))) w
      | none => False)
    | _, _, _ => fall st (SemOp P (.indexAddr t x ix) ty E w K))
  | .index t x ix => (match ev E x, ev E ix, tlook τ t with
    | some (.string s), some (.int _ i), some ⟨.str, _, _, _⟩ => (0 ≤ i ∧ i < s.size) ∧ K (.int .u8 (byteAt s i)) w
    | _, _, _ => fall st (SemOp P (.index t x ix) ty E w K))
  | .extract x i => (match ev E x with
    | some (.tuple vs) => (match lget vs.toList i with
      | some v => K v w
      | none => False)
    | _ => False)
  | .call { callee := .builtin .len, args := args, argTypes := ts } => (match args.toList, ts.toList with
    | x :: _, t :: _ => (match ev E x, tlook τ t with
      | some (.slice _ n _), some ⟨.slice _, _, _, _⟩ => K (.int .i64 (n : Nat)) w
      | some (.string s), some ⟨.str, _, _, _⟩ => K (.int .i64 (s.size : Nat)) w
      | _, _ => fall st (SemOp P (.call { callee := .builtin .len, args := args, argTypes := ts }) ty E w K))
    | _, _ => False)
  | .call { callee := .builtin .cap, args := args, argTypes := ts } => (match args.toList, ts.toList with
    | x :: _, t :: _ => (match ev E x, tlook τ t with
      | some (.slice _ _ n), some ⟨.slice _, _, _, _⟩ => K (.int .i64 (n : Nat)) w
      | _, _ => False)
    | _, _ => False)
  | .call { callee := .builtin .max, args := args, argTypes := ts } => (match args.toList with
    | [x, y] => (match ev E x, ev E y with
      | some (.int k a), some (.int _ b) => K (.int k (imax a b)) w
      | _, _ => fall st (SemOp P (.call { callee := .builtin .max, args := args, argTypes := ts }) ty E w K))
    | _ => fall st (SemOp P (.call { callee := .builtin .max, args := args, argTypes := ts }) ty E w K))
  | .call { callee := .builtin .min, args := args, argTypes := ts } => (match args.toList with
    | [x, y] => (match ev E x, ev E y with
      | some (.int k a), some (.int _ b) => K (.int k (imin a b)) w
      | _, _ => fall st (SemOp P (.call { callee := .builtin .min, args := args, argTypes := ts }) ty E w K))
    | _ => fall st (SemOp P (.call { callee := .builtin .min, args := args, argTypes := ts }) ty E w K))
  | op => fall st (SemOp P op ty E w K)
end Go.Proofs.YtfeegacmmfgjfaaGreatDoorX

/-!  The framework, part B: that what the reader says of an operation, a region, a body is true of the model. -/
set_option linter.unusedVariables false
set_option linter.unusedSimpArgs false
namespace Go.Proofs.YtfeegacmmfgjfaaGreatDoorX
open Go
variable {P : Program} {τ : TT}

theorem sem_out {op : Op} {ty : TypeId} {E : Env} {w : World} {K : Value → World → Prop} (h : SemOp P op ty E w K) {n : Nat} {a : Act} (hf : Fits n E a.tmps) (o : Oper) (ho : o.op = op) (ht : o.type = ty) :
    (∃ v w', (execOp a.eval o).run P w = .ok (.value v) w' ∧ K v w') ∨ (∃ w', (execOp a.eval o).run P w = .ok .skip w' ∧ K undef w') := by
  exact h.out a.eval o (fun x v hx => hf.eval hx) ho ht

theorem fall_out {st : Bool} {A : Prop} (h : fall st A) : A := by cases st; exact h; exact h.elim
theorem toArray_cells (v : Value) : (cellsOf v).toArray = v.cells := by cases v <;> simp [cellsOf, Value.cells]
theorem cells_toList (v : Value) : v.cells.toList = cellsOf v := by cases v <;> simp [cellsOf, Value.cells]

theorem evs_out {E : Env} : ∀ (l : List Operand) (k : List Value → Prop), evs E l k → ∃ vs, k vs ∧ vs.length = l.length ∧ ∀ (ρ : Operand → Value), (∀ x v, ev E x = some v → ρ x = v) → l.map ρ = vs
  | [], k, h => ⟨[], h, rfl, fun _ _ => rfl⟩
  | x :: r, k, h => by
    simp only [evs] at h
    split at h
    · rename_i v hv
      obtain ⟨vs, hk, hl, hm⟩ := evs_out r _ h
      exact ⟨v :: vs, hk, by simp [hl], fun ρ hρ => by simp [hρ x v hv, hm ρ hρ]⟩
    · exact h.elim

theorem evs_eval {E : Env} {n : Nat} {a : Act} (hf : Fits n E a.tmps) {l : List Operand} {k : List Value → Prop} (h : evs E l k) : k (l.map a.eval) := by
  obtain ⟨vs, hk, _, hm⟩ := evs_out l k h
  rw [hm a.eval (fun x v hx => hf.eval hx)]; exact hk

theorem putAt_length (cells : List Value) (off : Nat) (vs : List Value) : (putAt cells off vs).length = cells.length := by
  induction vs generalizing cells off with
  | nil => rfl
  | cons v r ih => simp [putAt, ih]
theorem fold_putAt (vs : List Value) : ∀ (cells : List Value) (off j : Nat), (List.foldl (fun (cs : Array Value) (x : Value × Nat) => cs.setIfInBounds (off + x.2) x.1) cells.toArray (vs.zipIdx j)) = (putAt cells (off + j) vs).toArray := by
  induction vs with
  | nil => intro cells off j; simp [putAt]
  | cons v r ih =>
    intro cells off j
    simp only [List.zipIdx_cons, List.foldl_cons, putAt]
    have : (cells.toArray.setIfInBounds (off + j) v) = (cells.set (off + j) v).toArray := by simp
    rw [this, ih]
    rw [show off + (j + 1) = off + j + 1 by omega]

theorem fill_step (place : Nat → Option (Nat × Nat)) (cells : List Value) (i : Nat) (v : Value) (rest : List (Nat × Value)) (off sz : Nat) (hp : place i = some (off, sz)) (h1 : (cellsOf v).length = sz) (h2 : off + sz ≤ cells.length) :
    Instr.fill place cells.toArray ((i, v) :: rest) = Instr.fill place (putAt cells off (cellsOf v)).toArray rest := by
  simp only [Instr.fill, hp]
  have hs : v.cells.size = sz := by rw [← toArray_cells]; simpa using h1
  rw [if_neg (by simp [hs]; omega)]
  congr 1
  rw [← toArray_cells]
  have := fold_putAt (cellsOf v) cells off 0
  simp only [Nat.add_zero] at this
  rw [← this]
  simp

theorem xfill_out (hτ : TOk P τ) {fs : List (Nat × TypeId)} {E : Env} (place : Nat → Option (Nat × Nat)) (hpl : ∀ i off t ti, fs[i]? = some (off, t) → tlook τ t = some ti → place i = some (off, ti.size)) :
    ∀ (l : List (Nat × Operand)) (cells : List Value) (k : List Value → Prop), xfill τ fs E l cells k → ∀ (ρ : Operand → Value), (∀ x v, ev E x = some v → ρ x = v) →
      ∃ cs, k cs ∧ Instr.fill place cells.toArray (l.map fun p => (p.1, ρ p.2)) = some cs.toArray
  | [], cells, k, h, ρ, hρ => ⟨cells, h, rfl⟩
  | (i, x) :: r, cells, k, h, ρ, hρ => by
    simp only [xfill] at h
    split at h
    · rename_i v off t hv hfs
      split at h
      · rename_i ti hti
        split at h
        · rename_i h1 h2
          have h1' := Nat.eq_of_beq_eq_true h1
          have h2' := Nat.le_of_ble_eq_true h2
          obtain ⟨cs, hk, hfl⟩ := xfill_out hτ place hpl r _ k h ρ hρ
          refine ⟨cs, hk, ?_⟩
          rw [List.map_cons, hρ x v hv]
          rw [fill_step place cells i v _ off ti.size (hpl i off t ti (by rw [← fget_eq]; exact hfs) hti) h1' h2']
          exact hfl
        · exact h.elim
      · exact h.elim
    · exact h.elim
theorem xfillE_out {sz : Nat} {E : Env} :
    ∀ (l : List (Nat × Operand)) (cells : List Value) (k : List Value → Prop), xfillE sz E l cells k → ∀ (ρ : Operand → Value), (∀ x v, ev E x = some v → ρ x = v) →
      ∃ cs, k cs ∧ Instr.fill (fun i => some (i * sz, sz)) cells.toArray (l.map fun p => (p.1, ρ p.2)) = some cs.toArray
  | [], cells, k, h, ρ, hρ => ⟨cells, h, rfl⟩
  | (i, x) :: r, cells, k, h, ρ, hρ => by
    simp only [xfillE] at h
    split at h
    · rename_i v hv
      split at h
      · rename_i h1 h2
        have h1' := Nat.eq_of_beq_eq_true h1
        have h2' := Nat.le_of_ble_eq_true h2
        obtain ⟨cs, hk, hfl⟩ := xfillE_out r _ k h ρ hρ
        refine ⟨cs, hk, ?_⟩
        rw [List.map_cons, hρ x v hv]
        rw [fill_step _ cells i v _ (i * sz) sz rfl h1' h2']
        exact hfl
      · exact h.elim
    · exact h.elim
theorem repl_length (z : List Value) (n : Nat) : (repl z n).length = n * z.length := by
  induction n with
  | zero => simp [repl]
  | succ n ih => simp [repl, ih, Nat.add_mul]; omega
theorem repl_get (z : List Value) (hz : 0 < z.length) (n i : Nat) (hi : i < n * z.length) : (repl z n)[i]? = z[i % z.length]? := by
  induction n generalizing i with
  | zero => simp at hi
  | succ n ih =>
    simp only [repl]
    by_cases h : i < z.length
    · rw [List.getElem?_append_left h, Nat.mod_eq_of_lt h]
    · rw [List.getElem?_append_right (by omega)]
      rw [ih (i - z.length) (by rw [Nat.add_mul] at hi; omega)]
      rw [Nat.mod_eq_sub_mod (a := i) (by omega)]
theorem repl_array (z : Array Value) (n sz : Nat) (hz : z.toList.length = sz) : (if n * sz = 0 then #[] else (Array.range (n * sz)).map (fun i => z[i % z.size]!)) = (repl z.toList n).toArray := by
  have hs : z.size = sz := by simpa using hz
  by_cases h0 : n * sz = 0
  · rw [if_pos h0]
    have : (repl z.toList n).length = 0 := by rw [repl_length, hz]; exact h0
    rw [List.eq_nil_of_length_eq_zero this]
  · rw [if_neg h0]
    have hsz : 0 < sz := Nat.pos_of_ne_zero fun e => h0 (by simp [e])
    apply Array.ext
    · simp [repl_length, hs]
    · intro i h1 h2
      have hi : i < n * sz := by simpa using h1
      have h3 := repl_get z.toList (by omega) n i (by rw [hz]; exact hi)
      rw [hz] at h3
      have hm : i % sz < z.size := by rw [hs]; exact Nat.mod_lt _ hsz
      simp only [Array.getElem_map, Array.getElem_range, List.getElem_toArray, hs]
      have h4 : (repl z.toList n)[i]? = some (repl z.toList n)[i] := List.getElem?_eq_getElem _
      rw [h3] at h4
      rw [getElem!_pos z (i % sz) hm]
      simp only [Array.getElem?_toList] at h4
      rw [Array.getElem?_eq_getElem hm] at h4
      exact Option.some.inj h4

theorem loadCellsFrom_run {w : World} {a : Addr} (cs : List Value) : ∀ (i : Nat) (acc : Array Value), (∀ j u, cs[j]? = some u → w.cell? (a.add (i + j)) = some u) →
    (loadCellsFrom a i cs.length acc).run P w = .ok (acc ++ cs.toArray) w := by
  induction cs with
  | nil => intro i acc h; simp [loadCellsFrom]
  | cons v r ih =>
    intro i acc h
    simp only [List.length_cons, loadCellsFrom, load, Sem.run_bind]
    have h0 := h 0 v (by simp)
    simp only [Nat.add_zero] at h0
    simp only [Sem.run, h0, Result.andThen_ok]
    rw [ih (i + 1) (acc.push v) (fun j u hj => by have := h (j + 1) u (by simpa using hj); rwa [show i + 1 + j = i + (j + 1) by omega])]
    simp
theorem loadVar_agg {i : TI} {t : TypeId} (ht : i.ok P t) (ha : i.td.agg = true) {w : World} {a : Addr} {cs : List Value} (hl : cs.length = i.size) (hc : CellsAt w a cs) : (loadVar t a).run P w = .ok (.agg cs.toArray) w := by
  have hc := hc.out
  have h := loadCellsFrom_run (P := P) (w := w) (a := a) cs 0 #[] (fun j u hj => by simpa using hc j u hj)
  simp only [loadVar, Sem.run_bind, ht.run_isAgg, Result.andThen_ok, ha, if_true, ht.run_sizeOf, loadCells]
  rw [← hl, h]
  simp
theorem loadVar_one {i : TI} {t : TypeId} (ht : i.ok P t) (ha : i.td.agg = false) {w : World} {a : Addr} {v : Value} (hc : w.cell? a = some v) : (loadVar t a).run P w = .ok v w := by
  simp [loadVar, ht.run_isAgg, ha, load, Sem.run, hc]
theorem store_one {w : World} {a : Addr} {v v0 : Value} (h1 : Value.one v) (hc : w.cell? a = some v0) (hf : w.frozen? a = false) : (store a v).run P w = .ok () (w.setCell a v) := by
  cases v <;> simp_all [store, Sem.run, Value.one]
theorem storeVar_one {i : TI} {t : TypeId} (ht : i.ok P t) (hs : i.size = 1) {w : World} {a : Addr} {v v0 : Value} (h1 : Value.one v) (hc : w.cell? a = some v0) (hf : w.frozen? a = false) : (storeVar t a v).run P w = .ok () (w.setCell a v) := by
  have hv : v.cells = #[v] := by cases v <;> simp_all [Value.cells, Value.one]
  have h2 := store_one (P := P) h1 hc hf
  simp only [storeVar, hv, Sem.run_bind, ht.run_sizeOf, hs, Result.andThen_ok]
  simp [storeCells, Addr.add, h2]
theorem struct_fields {i : TI} {t : TypeId} {fs : List (Nat × TypeId)} (ht : i.ok P t) (h : i.td = .struct fs) : ∃ fields, P.underlying t = some (.struct fields) ∧ fields.toList.map (fun f => (f.offset, f.type)) = fs := by
  have := ht.kind; rw [h] at this; exact this
theorem field_at {fields : Array Field} {fs : List (Nat × TypeId)} (h : fields.toList.map (fun f => (f.offset, f.type)) = fs) {j off : Nat} {t : TypeId} (hg : fget fs j = some (off, t)) : ∃ f, fields[j]? = some f ∧ f.offset = off ∧ f.type = t := by
  rw [fget_eq, ← h, List.getElem?_map] at hg
  obtain ⟨f, hf, he⟩ := Option.map_eq_some_iff.1 hg
  simp only [Prod.mk.injEq] at he
  exact ⟨f, by simpa using hf, he⟩
theorem run_newRow (e : TypeId) (cs : Array Value) (w : World) : (newRow e cs).run P w = .ok ⟨w.heap.size, 0, none⟩ (w.alloc (.cells cs e)) := by
  simp only [newRow, newObj, Sem.run_bind]; rfl
theorem run_newVar (e : TypeId) (v : Value) (w : World) : (newVar e v).run P w = .ok ⟨w.heap.size, 0, none⟩ (w.alloc (.cells v.cells e)) := run_newRow e _ w
theorem run_newObj (o : Obj) (w : World) : (newObj o).run P w = .ok w.heap.size (w.alloc o) := rfl
theorem run_ret {α : Type} (v : α) (w : World) : (pure v : Sem α).run P w = .ok v w := rfl

theorem cellsOf_tlook (hτ : TOk P τ) {t : TypeId} {ti : TI} (h : tlook τ t = some ti) : P.cellsOf t = ti.size := by
  obtain ⟨f, hf, _, hs, _⟩ := (hτ t ti h).info
  simp [Program.cellsOf, hf, hs]
theorem allIn_mem (hτ : TOk P τ) : ∀ (fs : List (Nat × TypeId)), allIn τ fs = true → ∀ p ∈ fs, ∃ j, P.info? p.2 = some j
  | [], _, p, hp => by simp at hp
  | (o, t) :: r, h, p, hp => by
    simp only [allIn] at h
    split at h
    · rename_i ti hti
      rcases List.mem_cons.1 hp with rfl | hp
      · obtain ⟨f, hf, _⟩ := (hτ t ti hti).info
        exact ⟨f, hf⟩
      · exact allIn_mem hτ r h p hp
    · cases h
theorem run_places (P : Program) (w : World) : ∀ (l : List Field), (∀ f ∈ l, ∃ j, P.info? f.type = some j) → (l.mapM (fun f => do pure (f.offset, ← sizeOf f.type) : Field → Sem (Nat × Nat))).run P w = .ok (l.map fun f => (f.offset, P.cellsOf f.type)) w
  | [], _ => by simp
  | f :: r, hl => by
    obtain ⟨j, hj⟩ := hl f (by simp)
    have ih := run_places P w r (fun g hg => hl g (by simp [hg]))
    have h1 : (sizeOf f.type).run P w = .ok (P.cellsOf f.type) w := by simp [sizeOf, typeInfo, hj, Program.cellsOf]
    rw [List.mapM_cons]
    simp only [Sem.run_bind, h1, Result.andThen_ok, Sem.run_pure, ih, List.map_cons]

theorem optI_some {E : Env} {d : Int} {x : Operand} {i : Int} (h : optI E d (some x) = some i) : ∃ k, ev E x = some (.int k i) := by
  simp only [optI] at h
  split at h
  · rename_i k j hj; cases h; exact ⟨k, hj⟩
  · cases h
theorem bounds_run {E : Env} {n : Nat} {a : Act} {w : World} (hf : Fits n E a.tmps) (sl : Bool) (len cap : Nat) {lo hi : Option Operand} {l h : Int} (hl : optI E 0 lo = some l) (hh : optI E len hi = some h) (h0 : 0 ≤ l) (h1 : l ≤ h) (h2 : h ≤ cap) :
    (Instr.sliceBounds sl len cap (lo.map a.eval) (hi.map a.eval) none).run P w = .ok (l.toNat, h.toNat, cap) w := by
  have hb : ∀ (k : IntKind) (z : Int) (y : Nat) (code : BoundsCode), 0 ≤ z → z ≤ y → (Instr.sliceBound (.int k z) y code).run P w = .ok z.toNat w := by
    intro k z y code hz hy
    simp [Instr.sliceBound, asIntOf, hz, hy]
  cases lo with
  | none =>
    simp only [optI, Option.some.injEq] at hl
    subst hl
    cases hi with
    | none =>
      simp only [optI, Option.some.injEq] at hh
      subst hh
      simp [Instr.sliceBounds]
    | some y =>
      obtain ⟨k, hk⟩ := optI_some hh
      cases sl <;> simp [Instr.sliceBounds, hf.eval hk, hb k h cap _ (by omega) h2]
  | some x =>
    obtain ⟨k, hk⟩ := optI_some hl
    cases hi with
    | none =>
      simp only [optI, Option.some.injEq] at hh
      subst hh
      simp [Instr.sliceBounds, hf.eval hk, hb k l len _ h0 h1]
    | some y =>
      obtain ⟨k2, hk2⟩ := optI_some hh
      cases sl <;> simp [Instr.sliceBounds, hf.eval hk, hf.eval hk2, hb k2 h cap _ (by omega) h2, hb k l h.toNat _ h0 (by omega)]
theorem under (hτ : TOk P τ) {t : TypeId} {i : TI} (h : tlook τ t = some i) : ∃ d, P.underlying t = some d := by
  have hk := (hτ t i h).kind
  cases htd : i.td with
  | int k => rw [htd] at hk; exact ⟨_, hk⟩
  | bool => rw [htd] at hk; exact ⟨_, hk⟩
  | str => rw [htd] at hk; exact ⟨_, hk⟩
  | ptr => rw [htd] at hk; obtain ⟨e, hk⟩ := hk; exact ⟨_, hk⟩
  | slice e => rw [htd] at hk; exact ⟨_, hk⟩
  | struct fs => rw [htd] at hk; obtain ⟨e, hk, _⟩ := hk; exact ⟨_, hk⟩
  | map k e => rw [htd] at hk; exact ⟨_, hk⟩
  | iface => rw [htd] at hk; obtain ⟨e, hk⟩ := hk; exact ⟨_, hk⟩
  | other => rw [htd] at hk; obtain ⟨_, _, _, hk⟩ := hk; exact ⟨_, hk⟩

theorem xop_sound (hτ : TOk P τ) {o : Oper} {E : Env} {w : World} {K : Value → World → Prop} {n : Nat} {a : Act} (hf : Fits n E a.tmps) {st : Bool} (h : xop P τ st o.op o.type E w K) :
    (∃ v w', (execOp a.eval o).run P w = .ok (.value v) w' ∧ K v w') ∨ (∃ w', (execOp a.eval o).run P w = .ok .skip w' ∧ K undef w') := by
  obtain ⟨dst, op, ty, pos, after, guard⟩ := o
  simp only at h
  unfold xop at h
  split at h
  case h_1 x =>
    split at h
    · rename_i v hv; exact .inl ⟨v, w, by simp [execOp, hf.eval hv], h⟩
    · exact h.elim
  case h_2 x =>
    split at h
    · rename_i v hv; exact .inl ⟨v, w, by simp [execOp, hf.eval hv], h⟩
    · exact h.elim
  case h_3 c x y =>
    split at h
    · rename_i c' va vb hc ha hb
      refine .inl ⟨if c' then va else vb, w, by simp [execOp, hf.eval hc, hf.eval ha, hf.eval hb, asBool], ?_⟩
      cases c' <;> exact h
    · exact h.elim
  case h_4 t =>
    split at h
    · rename_i i hi
      have ht := hτ t i hi
      refine .inl ⟨_, _, ?_, h _ _ ⟨rfl, rfl⟩⟩
      simp [execOp, Instr.alloc, ht.run_zero, run_newVar, toArray_cells]
    · exact sem_out (fall_out h) hf _ rfl rfl
  case h_5 t x =>
    split at h
    · rename_i v hv
      refine .inl ⟨_, _, ?_, h _ _ ⟨rfl, rfl⟩⟩
      simp [execOp, Instr.box, hf.eval hv, run_newVar, toArray_cells]
    · exact h.elim
  case h_6 t parts =>
    split at h
    · rename_i i hi
      have ht := hτ t i hi
      split at h
      · rename_i fs hfs
        obtain ⟨fields, hu, hm⟩ := struct_fields ht hfs
        split at h
        · rename_i hall
          obtain ⟨cs, hk, hfl⟩ := xfill_out hτ (fun j => (fields.toList.map fun f => (f.offset, P.cellsOf f.type))[j]?) (fun j off u ti hj hti => by
            rw [← hm, List.getElem?_map] at hj
            obtain ⟨f, hff, he⟩ := Option.map_eq_some_iff.1 hj
            simp only [Prod.mk.injEq] at he
            obtain ⟨rfl, rfl⟩ := he
            rw [List.getElem?_map, hff]
            simp [cellsOf_tlook hτ hti]) parts.toList _ _ h a.eval (fun x v hx => hf.eval hx)
          refine .inl ⟨_, _, ?_, hk⟩
          have hpl := run_places P w fields.toList (fun f hff => by
            have h1 := allIn_mem hτ fs hall (f.offset, f.type) (by rw [← hm]; exact List.mem_map.2 ⟨f, hff, rfl⟩)
            exact h1)
          have hpl2 : (fields.mapM (fun f => do pure (f.offset, ← sizeOf f.type) : Field → Sem (Nat × Nat))).run P w = .ok (fields.map fun f => (f.offset, P.cellsOf f.type)) w := by
            rw [← Array.toArray_toList (xs := fields)]
            rw [List.mapM_toArray]
            rw [Sem.run_map, hpl]
            simp only [Result.andThen_ok]
            congr 1
            apply Array.ext'
            simp
          simp only [execOp, Instr.build, Sem.run_bind, ht.run_zero, run_underlying hu, Result.andThen_ok, hpl2]
          have hparts : (parts.map fun x => (x.1, a.eval x.2)).toList = parts.toList.map (fun p => (p.1, a.eval p.2)) := by simp
          have hpf : (fun (x : Nat) => (fields.map fun f => (f.offset, P.cellsOf f.type))[x]?) = (fun j => (fields.toList.map fun f => (f.offset, P.cellsOf f.type))[j]?) := by
            funext j; simp
          rw [hparts, hpf, ← toArray_cells, hfl]
          simp
        · exact h.elim
      · exact sem_out (fall_out h) hf _ rfl rfl
    · exact h.elim
  case h_7 t len parts =>
    split at h
    · rename_i i hi
      have ht := hτ t i hi
      split at h
      · rename_i e he
        split at h
        · rename_i j hj
          have hej := hτ e j hj
          split at h
          · rename_i h1 h2
            have h1' := Nat.le_of_ble_eq_true h1
            have h2' := Nat.eq_of_beq_eq_true h2
            obtain ⟨cs, hk, hfl⟩ := xfillE_out parts.toList _ _ h a.eval (fun x v hx => hf.eval hx)
            have hu := ht.kind
            rw [he] at hu
            have hz : (j.zero.cells).toList.length = j.size := by rw [cells_toList]; exact h2'
            have hr := repl_array j.zero.cells len j.size hz
            rw [cells_toList] at hr
            refine .inl ⟨_, _, ?_, hk _ _ ⟨rfl, rfl⟩⟩
            simp only [execOp, Instr.buildSlice, Sem.run_bind, run_underlying hu, Result.andThen_ok, hej.run_sizeOf]
            rw [if_neg (by show ¬ len * j.size > 2 ^ 24; omega)]
            have hparts : (parts.map fun x => (x.1, a.eval x.2)).toList = parts.toList.map (fun p => (p.1, a.eval p.2)) := by simp
            by_cases h0 : len * j.size = 0
            · rw [if_pos h0] at hr ⊢
              simp only [Sem.run_bind, Sem.run_pure, Result.andThen_ok, h0]
              have h00 : Array.map (fun x => (#[] : Array Value)[x % (#[] : Array Value).size]!) (Array.range 0) = (repl (cellsOf j.zero) len).toArray := by rw [← hr]; simp
              rw [h00, hparts, hfl]
              simp [run_newRow]
            · rw [if_neg h0] at hr ⊢
              simp only [Sem.run_bind, Sem.run_pure, Result.andThen_ok, hej.run_zero]
              rw [hr, hparts, hfl]
              simp [run_newRow]
          · exact h.elim
        · exact h.elim
      · exact h.elim
    · exact h.elim
  case h_8 t x =>
    split at h
    · rename_i ad hx
      split at h
      · rename_i i hi
        have ht := hτ t i hi
        split at h
        · rename_i fs hfs
          obtain ⟨cs, hl, hc, hK⟩ := h
          have := loadVar_agg (P := P) ht (by rw [hfs]; rfl) hl hc
          exact .inl ⟨_, _, by simp [execOp, Instr.loadAt, Instr.sureAddr, hf.eval hx, this], hK⟩
        · rename_i hn
          obtain ⟨v, hc, hK⟩ := h
          have hag : i.td.agg = false := by cases htd : i.td <;> simp_all [TD.agg]
          have := loadVar_one (P := P) ht hag hc
          exact .inl ⟨_, _, by simp [execOp, Instr.loadAt, Instr.sureAddr, hf.eval hx, this], hK⟩
      · exact h.elim
    · exact h.elim
  case h_9 t x y =>
    split at h
    · rename_i ad v hx hy
      split at h
      · rename_i i hi
        have ht := hτ t i hi
        split at h
        · rename_i fs hfs
          obtain ⟨hl, w', hr, hK⟩ := h
          refine .inr ⟨w', ?_, hK⟩
          have hs : v.cells.size = i.size := by rw [← toArray_cells]; simpa using hl
          simp [execOp, Instr.storeAt, Instr.sureAddr, hf.eval hx, hf.eval hy, storeVar, ht.run_sizeOf, hs, cells_toList, hr]
        · obtain ⟨hs, h1, ⟨v0, hc, hfr⟩, hK⟩ := h
          refine .inr ⟨_, ?_, hK _ ⟨rfl⟩⟩
          have := storeVar_one (P := P) ht hs h1 hc hfr
          simp [execOp, Instr.storeAt, Instr.sureAddr, hf.eval hx, hf.eval hy, this]
      · exact h.elim
    · exact h.elim
  case h_10 x =>
    split at h
    · rename_i ad hx; exact .inl ⟨_, _, by simp [execOp, hf.eval hx], h⟩
    · rename_i f fi ca hx; exact .inl ⟨_, _, by simp [execOp, hf.eval hx], h⟩
    · rename_i t v hx; exact .inl ⟨_, _, by simp [execOp, hf.eval hx], h⟩
    · exact h.elim
  case h_11 bop t x y yt =>
    split at h
    · rename_i p q hx hy
      split at h
      · rename_i s1 b1 z1 hop ht
        refine .inl ⟨_, w, ?_, h⟩
        have h1 : (binOp .eql t (.bool p) (.bool q)).run P w = .ok (.bool (p == q)) w := by
          simp only [binOp, Sem.run_bind, run_equal_bool w t p q (hτ t _ ht).kind, Result.andThen_ok, Sem.run_pure]
        have h0 : (eqGuard .eql t x y (.bool p) (.bool q)).run P w = .ok () w := by unfold eqGuard; simp
        simp only [execOp, hf.eval hx, hf.eval hy, Sem.run_bind, h0, h1, Result.andThen_ok, Sem.run_pure]
        rfl
      · rename_i s1 b1 z1 hop ht
        refine .inl ⟨_, w, ?_, h⟩
        have h1 : (binOp .neq t (.bool p) (.bool q)).run P w = .ok (.bool (!(p == q))) w := by
          simp only [binOp, Sem.run_bind, run_equal_bool w t p q (hτ t _ ht).kind, Result.andThen_ok, Sem.run_pure]
        have h0 : (eqGuard .neq t x y (.bool p) (.bool q)).run P w = .ok () w := by unfold eqGuard; simp
        simp only [execOp, hf.eval hx, hf.eval hy, Sem.run_bind, h0, h1, Result.andThen_ok, Sem.run_pure]
        rfl
      · exact sem_out (fall_out h) hf _ rfl rfl
    · rename_i va vb _ hx hy
      obtain ⟨v, w', hr, hK⟩ := xbin_sound (P := P) (t := t) (x := x) (y := y) h (fun hs => by
        rcases sem_out (fall_out hs) hf ⟨dst, _, _, pos, after, guard⟩ rfl rfl with ⟨v, w', hr, hK⟩ | ⟨w', hr, hK⟩
        · simp only [execOp, Sem.run_bind] at hr
          rw [hf.eval hx, hf.eval hy] at hr
          cases hq : (do eqGuard bop t x y va vb; binOp bop t va vb : Sem Value).run P w with
          | ok u w2 => simp only [Sem.run_bind] at hq; rw [hq] at hr; simp at hr; obtain ⟨rfl, rfl⟩ := hr; exact ⟨_, _, rfl, hK⟩
          | halt hh w2 => simp only [Sem.run_bind] at hq; rw [hq] at hr; simp at hr
        · simp only [execOp, Sem.run_bind] at hr
          rw [hf.eval hx, hf.eval hy] at hr
          cases hq : (do eqGuard bop t x y va vb; binOp bop t va vb : Sem Value).run P w with
          | ok u w2 => simp only [Sem.run_bind] at hq; rw [hq] at hr; simp at hr
          | halt hh w2 => simp only [Sem.run_bind] at hq; rw [hq] at hr; simp at hr)
      refine .inl ⟨v, w', ?_, hK⟩
      simp only [execOp, Sem.run_bind] at hr ⊢
      rw [hf.eval hx, hf.eval hy, hr]
      simp
    · exact h.elim
  case h_12 uop t x =>
    split at h
    · rename_i b hx; exact .inl ⟨.bool !b, w, by simp [execOp, hf.eval hx, Op.unary], by unfold bnot at h; exact h⟩
    · rename_i k m hx; exact .inl ⟨.int k (k.wrap (0 - m)), w, by simp [execOp, hf.eval hx, Op.unary, Op.intArith], h.out⟩
    · exact sem_out (fall_out h) hf _ rfl rfl
  case h_13 s t x =>
    split at h
    · rename_i k' m i1 k sz bt z hx h1 h2
      obtain ⟨d1, hd1⟩ := under hτ h1
      have hu : P.underlying t = some (.int k) := (hτ _ _ h2).kind
      exact .inl ⟨.int k (k.wrap m), w, by simp [execOp, hf.eval hx, convert, run_underlying hd1, run_underlying hu, Conv.intToInt], h.out⟩
    · rename_i v i1 sz bt z hx h1 h2
      obtain ⟨d1, hd1⟩ := under hτ h1
      have hu : P.underlying t = some .string := (hτ _ _ h2).kind
      exact .inl ⟨.string v, w, by simp [execOp, hf.eval hx, convert, run_underlying hd1, run_underlying hu], h⟩
    · exact sem_out (fall_out h) hf _ rfl rfl
  case h_14 t x =>
    split at h
    · exact h.elim
    · rename_i v i hn hx hi
      refine .inl ⟨.iface t v, w, ?_, h⟩
      obtain ⟨d, hd⟩ := under hτ hi
      have hni : ∀ ms, d ≠ .interface ms := by
        intro ms he
        subst he
        have hk := (hτ _ _ hi).kind
        obtain ⟨td, sz, bt, z⟩ := i
        cases td with
        | iface => exact hn sz bt z rfl
        | int k => simp only [TD.ok] at hk; rw [hd] at hk; cases hk
        | bool => simp only [TD.ok] at hk; rw [hd] at hk; cases hk
        | str => simp only [TD.ok] at hk; rw [hd] at hk; cases hk
        | ptr => obtain ⟨e, hk⟩ := hk; rw [hd] at hk; cases hk
        | slice e => simp only [TD.ok] at hk; rw [hd] at hk; cases hk
        | struct fs => obtain ⟨e, hk, _⟩ := hk; rw [hd] at hk; cases hk
        | map k e => simp only [TD.ok] at hk; rw [hd] at hk; cases hk
        | other => obtain ⟨_, _, _, hk⟩ := hk; rw [hd] at hk; cases hk
      simp only [execOp, Instr.makeInterface, Sem.run_bind, run_underlying hd, Result.andThen_ok, hf.eval hx]
      cases d <;> first | rfl | exact absurd rfl (hni _)
    · exact h.elim
  case h_15 fn fi ca =>
    have h1 := evs_eval hf h
    have h2 := evs_eval hf h1
    exact .inl ⟨_, w, rfl, by rw [← Array.toList_map, ← Array.toList_map, Array.toArray_toList, Array.toArray_toList] at h2; exact h2⟩
  case h_16 t r =>
    split at h
    · exact .inl ⟨_, _, by simp [execOp, Instr.makeMap, run_newObj], h _ _ ⟨rfl, rfl⟩⟩
    · exact h.elim
  case h_17 t l c =>
    split at h
    · rename_i k1 l' k2 c' e s1 b1 z1 hl hc ht
      split at h
      · rename_i td bytes z he
        obtain ⟨⟨h0, h1, h3, h2⟩, hz, hK⟩ := h
        have hu : P.underlying t = some (.slice e) := (hτ _ _ ht).kind
        have hei := hτ _ _ he
        obtain ⟨f, hfi, hfz, hfs, hfb⟩ := hei.info
        refine .inl ⟨_, _, ?_, hK _ _ ⟨rfl, rfl⟩⟩
        have hzc : z.cells = #[z] := by rw [← toArray_cells, hz]
        have w1 : IntKind.i64.wrap l' = l' := wrap_i64 (by omega)
        have w2 : IntKind.i64.wrap c' = c' := wrap_i64 (by omega)
        have hti : (typeInfo e).run P w = .ok f w := by simp [typeInfo, hfi]
        have hb2 : ¬ ((f.bytes : Int) * c' > 2 ^ 48) := by
          rw [hfb, Int.mul_comm]
          have : (2 : Int) ^ 48 = 281474976710656 := rfl
          show ¬ (c' * (bytes : Int) > _)
          omega
        have hroom : (askRoom (c'.toNat * f.bytes)).run P w = .ok () w := by
          have : ¬ (c'.toNat * f.bytes > roomBytes) := by
            have h5 : ((c'.toNat * f.bytes : Nat) : Int) = c' * bytes := by rw [Int.natCast_mul, Int.toNat_of_nonneg (by omega), hfb]
            have h6 : roomBytes = 140737488355328 := rfl
            omega
          simp [askRoom, this]
        simp only [execOp, Instr.makeSlice, Sem.run_bind, run_underlying hu, Result.andThen_ok, hf.eval hl, hf.eval hc, asInt, asIntOf, Sem.run_pure, hti, w1, w2]
        have hcond : ¬ ((decide (c' < 0) || decide ((f.bytes : Int) * c' > 2 ^ 48) || decide (l' < 0) || decide (l' > c')) = true) := by
          simp only [Bool.or_eq_true, decide_eq_true_eq]
          omega
        rw [if_neg hcond]
        simp only [Sem.run_bind, hroom, Result.andThen_ok, hei.run_sizeOf]
        by_cases hc0 : c'.toNat = 0
        · have hr0 : Array.map (fun x => (#[] : Array Value)[x % (#[] : Array Value).size]!) (Array.range 0) = #[] := by simp
          simp only [hc0, Nat.zero_mul, if_true, Sem.run_bind, Sem.run_pure, Result.andThen_ok, run_newRow, List.replicate, hr0]
        · simp only [Nat.mul_one, hc0, if_false, Sem.run_bind, hei.run_zero, Result.andThen_ok, Sem.run_pure, hzc, run_newRow]
          congr 2
          congr 1
          apply Array.ext
          · simp
          · intro i h1 h2
            simp [Nat.mod_one]
      · exact h.elim
    · exact h.elim
  case h_18 t x lo hi' mx =>
    split at h
    · exact sem_out (fall_out h) hf _ rfl rfl
    · split at h
      · rename_i s s1 b1 z1 hx ht
        split at h
        · rename_i l u hlo hhi
          obtain ⟨⟨h0, h1, h2⟩, hK⟩ := h
          have hu : P.underlying t = some .string := (hτ _ _ ht).kind
          refine .inl ⟨_, w, ?_, hK⟩
          have hb := bounds_run (P := P) (w := w) hf false s.size s.size hlo (by exact hhi) h0 h1 (by omega)
          simp only [execOp, Instr.sliceAt, Instr.slice, Sem.run_bind, run_underlying hu, Result.andThen_ok, hf.eval hx, Option.map_none, Option.isSome_none, hb, Bool.false_eq_true, if_false, Sem.run_pure]
        · exact h.elim
      · rename_i A m c e s1 b1 z1 hx ht
        split at h
        · rename_i l u i hlo hhi hi
          obtain ⟨⟨h0, h1, h2⟩, hK⟩ := h
          have hu : P.underlying t = some (.slice e) := (hτ _ _ ht).kind
          have hb := bounds_run (P := P) (w := w) hf true m c hlo (by exact hhi) h0 h1 (by omega)
          have hsz := (hτ _ _ hi).run_sizeOf w
          have hrun : (execOp a.eval ⟨dst, .slice t x lo hi' none, ty, pos, after, guard⟩).run P w = .ok (.value (.slice (cutA A c l.toNat i.size) (u.toNat - l.toNat) (c - l.toNat))) w := by
            simp only [execOp, Instr.sliceAt, Instr.slice, Sem.run_bind, run_underlying hu, Result.andThen_ok, hf.eval hx, Option.map_none, hb, Sem.run_pure, hsz]
            unfold cutA
            rfl
          split at hK
          · simp only [optI, Option.some.injEq] at hlo
            subst hlo
            refine .inl ⟨_, w, hrun, ?_⟩
            simp only [Int.toNat_zero, cutA_zero, Nat.sub_zero]
            exact hK
          · exact .inl ⟨_, w, hrun, hK⟩
        · exact h.elim
      · exact sem_out (fall_out h) hf _ rfl rfl
  case h_19 s x f =>
    split at h
    · rename_i ad fs s1 b1 z1 hx hs
      split at h
      · rename_i off t hfg
        split at h
        · rename_i i hi
          split at h
          · rename_i hz
            obtain ⟨fields, hu, hm⟩ := (hτ _ _ hs).kind
            obtain ⟨fd, hfd, hoff, hty⟩ := field_at hm hfg
            have hsz : ¬ i.size = 0 := Nat.ne_of_beq_eq_false hz
            have hr : (sizeOf fd.type).run P w = .ok i.size w := by rw [hty]; exact (hτ _ _ hi).run_sizeOf w
            exact .inl ⟨_, w, by simp [execOp, Instr.fieldAt, run_underlying hu, hfd, Instr.sureAddr, hf.eval hx, fieldPlace, hr, hsz, hoff], h⟩
          · exact h.elim
        · exact h.elim
      · exact h.elim
    · exact h.elim
  case h_20 s x f =>
    split at h
    · rename_i cs fs s1 b1 z1 hx hs
      split at h
      · rename_i off t hfg
        split at h
        · rename_i i hi
          obtain ⟨fields, hu, hm⟩ := (hτ _ _ hs).kind
          obtain ⟨fd, hfd, hoff, hty⟩ := field_at hm hfg
          have hia := fun w => (hτ _ _ hi).run_isAgg w
          have his := fun w => (hτ _ _ hi).run_sizeOf w
          split at h
          · rename_i fs2 htd
            have hag : i.td.agg = true := by rw [htd]; rfl
            exact .inl ⟨_, w, by simp [execOp, Instr.field, run_underlying hu, hfd, hf.eval hx, asAgg, part, hty, hia, his, hag, hoff], h⟩
          · rename_i hn
            have hag : i.td.agg = false := by cases htd : i.td <;> simp_all [TD.agg]
            split at h
            · rename_i v hv
              rw [lget_eq] at hv
              have hv' : cs[off]? = some v := by simpa using hv
              exact .inl ⟨v, w, by simp [execOp, Instr.field, run_underlying hu, hfd, hf.eval hx, asAgg, part, hty, hia, hag, hoff, hv'], h⟩
            · exact h.elim
        · exact h.elim
      · exact h.elim
    · exact h.elim
  case h_21 t x ix =>
    split at h
    · rename_i A m c k i e s1 b1 z1 hx hi ht
      split at h
      · rename_i j hj
        obtain ⟨⟨h0, h1⟩, ad, rfl, hK⟩ := h
        have hu : P.underlying t = some (.slice e) := (hτ _ _ ht).kind
        have hs := fun w => (hτ _ _ hj).run_sizeOf w
        refine .inl ⟨_, w, ?_, hK⟩
        simp only [execOp, Instr.indexAt, asIntOf, hf.eval hi, hf.eval hx, Sem.run_bind, Sem.run_pure, Result.andThen_ok, run_underlying hu]
        rw [if_pos ⟨h0, h1⟩]
        simp [hs]
      · exact h.elim
    · exact sem_out (fall_out h) hf _ rfl rfl
  case h_22 t x ix =>
    split at h
    · rename_i s k i s1 b1 z1 hx hi ht
      obtain ⟨⟨h0, h1⟩, hK⟩ := h
      have hu : P.underlying t = some .string := (hτ _ _ ht).kind
      refine .inl ⟨_, w, ?_, hK⟩
      have hlt : i.toNat < s.size := by omega
      have hb : s[i.toNat]? = some s[i.toNat] := getElem?_pos s i.toNat hlt
      simp only [execOp, Instr.index, asIntOf, hf.eval hi, hf.eval hx, Sem.run_bind, Sem.run_pure, Result.andThen_ok, run_underlying hu]
      rw [if_pos h0, hb]
      have : byteAt s i = (s[i.toNat].toNat : Int) := by
        unfold byteAt
        rw [List.getD_eq_getElem?_getD, List.getElem?_eq_getElem (by simpa using hlt)]
        rfl
      rw [this]
      rfl
    · exact sem_out (fall_out h) hf _ rfl rfl
  case h_23 x i =>
    split at h
    · rename_i vs hx
      split at h
      · rename_i v hv
        rw [lget_eq] at hv
        have hv' : vs[i]? = some v := by simpa using hv
        exact .inl ⟨v, w, by simp [execOp, Instr.extract, hf.eval hx, hv'], h⟩
      · exact h.elim
    · exact h.elim
  case h_24 args ts =>
    split at h
    · rename_i x xr t tr hargs hts
      have ha : args.toList.map a.eval = a.eval x :: xr.map a.eval := by rw [hargs]; rfl
      have ha0 : args[0]? = some x := by rw [← Array.getElem?_toList, hargs]; rfl
      have ht0 : ts[0]? = some t := by rw [← Array.getElem?_toList, hts]; rfl
      split at h
      · rename_i A m c e s1 b1 z1 hx ht
        have hu : P.underlying t = some (.slice e) := (hτ _ _ ht).kind
        exact .inl ⟨_, w, by simp [execOp, resolve, invoke, builtin, Builtin.len_, ht0, ha0, hf.eval hx, run_underlying hu, goInt], h⟩
      · rename_i s s1 b1 z1 hx ht
        have hu : P.underlying t = some .string := (hτ _ _ ht).kind
        exact .inl ⟨_, w, by simp [execOp, resolve, invoke, builtin, Builtin.len_, ht0, ha0, hf.eval hx, run_underlying hu, goInt], h⟩
      · exact sem_out (fall_out h) hf _ rfl rfl
    · exact h.elim
  case h_25 args ts =>
    split at h
    · rename_i x xr t tr hargs hts
      have ha : args.toList.map a.eval = a.eval x :: xr.map a.eval := by rw [hargs]; rfl
      have ha0 : args[0]? = some x := by rw [← Array.getElem?_toList, hargs]; rfl
      have ht0 : ts[0]? = some t := by rw [← Array.getElem?_toList, hts]; rfl
      split at h
      · rename_i A m c e s1 b1 z1 hx ht
        have hu : P.underlying t = some (.slice e) := (hτ _ _ ht).kind
        exact .inl ⟨_, w, by simp [execOp, resolve, invoke, builtin, Builtin.cap_, ht0, ha0, hf.eval hx, run_underlying hu, goInt], h⟩
      · exact h.elim
    · exact h.elim
  case h_26 args ts =>
    split at h
    · rename_i x y hargs
      split at h
      · rename_i k p k2 q hx hy
        have ha : args = #[x, y] := by rw [← Array.toArray_toList (xs := args), hargs]
        subst ha
        refine .inl ⟨_, w, ?_, h⟩
        simp [execOp, resolve, invoke, builtin, Builtin.max_, Builtin.max2, hf.eval hx, hf.eval hy, imax]
      · exact sem_out (fall_out h) hf _ rfl rfl
    · exact sem_out (fall_out h) hf _ rfl rfl
  case h_27 args ts =>
    split at h
    · rename_i x y hargs
      split at h
      · rename_i k p k2 q hx hy
        have ha : args = #[x, y] := by rw [← Array.toArray_toList (xs := args), hargs]
        subst ha
        refine .inl ⟨_, w, ?_, h⟩
        simp [execOp, resolve, invoke, builtin, Builtin.min_, Builtin.min2, hf.eval hx, hf.eval hy, imin]
      · exact sem_out (fall_out h) hf _ rfl rfl
    · exact sem_out (fall_out h) hf _ rfl rfl
  case h_28 => exact sem_out (fall_out h) hf _ rfl rfl
end Go.Proofs.YtfeegacmmfgjfaaGreatDoorX

/-!  The framework, part C: regions, bodies, loops, functions. -/
set_option linter.unusedVariables false
set_option linter.unusedSimpArgs false
namespace Go.Proofs.YtfeegacmmfgjfaaGreatDoorX
open Go

abbrev XQ := Exit → List Deferred → Env → World → Prop
def isPanic : Exit → Prop
  | .panic _ => True
  | _ => False
def lift (n : Nat) (Q : XQ) : Exit → Act → World → Prop := fun e a w => ∃ E, (Fits n E a.tmps ∨ isPanic e) ∧ Q e a.defers E w
theorem lift_mk {n : Nat} {Q : XQ} {e : Exit} {a : Act} {w : World} {E : Env} (hf : Fits n E a.tmps) (h : Q e a.defers E w) : lift n Q e a w := ⟨E, .inl hf, h⟩

/-- A call: it returns, or it panics. -/
structure Call (P : Program) (f : FuncId) (args : Array Value) (w : World) (R : Value → World → Prop) (S : List PanicEntry → World → Prop) : Prop where
  fn : ∃ fn, P.funcs[f]? = some fn ∧ (fn.name == "runtime.NumGoroutine") = false ∧ fn.body.isNone = false
  calls : Calls P f args w fun e w' => (∃ v, e = .returned v ∧ R v w') ∨ (∃ c, e = .panicked c ∧ S c w')
theorem Ret.call {P : Program} {f : FuncId} {args : Array Value} {w : World} {R R' : Value → World → Prop} {S : List PanicEntry → World → Prop} (h : Ret P f args w R) (hr : ∀ v w', R v w' → R' v w') : Call P f args w R' S := by
  exact ⟨h.1, h.2.mono fun e w' ⟨v, he, hR⟩ => .inl ⟨v, he, hr v w' hR⟩⟩
theorem Call.mono {P : Program} {f : FuncId} {args : Array Value} {w : World} {R R' : Value → World → Prop} {S S' : List PanicEntry → World → Prop} (h : Call P f args w R S) (hr : ∀ v w', R v w' → R' v w') (hs : ∀ v w', S v w' → S' v w') : Call P f args w R' S' := by
  exact ⟨h.1, h.2.mono fun e w' => Or.imp (fun ⟨v, he, hR⟩ => ⟨v, he, hr v w' hR⟩) (fun ⟨v, he, hR⟩ => ⟨v, he, hs v w' hR⟩)⟩

/-- The slot of an operation's result, and what it bears, for a guard. -/
def dstOf : List Oper → Nat → Option Tmp
  | [], _ => none
  | o :: _, 0 => o.dst
  | _ :: r, i + 1 => dstOf r i
theorem dstOf_eq (l : List Oper) (i : Nat) : dstOf l i = (l[i]?).bind (·.dst) := by
  induction l generalizing i with
  | nil => simp [dstOf]
  | cons v r ih => cases i <;> simp [dstOf, ih]
def put (n : Nat) (dst : Option Tmp) (v : Value) (E : Env) (K : Env → Prop) : Prop :=
  match dst with
  | some d => match Nat.ble (d + 1) n with
    | true => K ((d, v) :: E)
    | false => False
  | none => K E
/-- Is a guard met? -/
def guardP (want c : Bool) (A B : Prop) : Prop := match want with
  | true => condP c A B
  | false => condP c B A
def argsOf (fi ca vs : List Value) : List Value := fi ++ vs ++ ca
noncomputable def xexec (P : Program) (τ : TT) (n : Nat) (Q : XQ) (o : Oper) (D : List Deferred) (E : Env) (w : World) (K : List Deferred → Env → World → Prop) : Prop :=
  match o.op with
  | .call { callee := .value f, args := args, argTypes := _ } => (match ev E f with
    | some (.func (.func g) fi ca) => evs E args.toList fun vs => (match fi.toList, ca.toList with
      | [], [] => Call P g vs.toArray w (fun v w' => put n o.dst v E fun E' => K D E' w') (fun c w' => Q (.panic c) D E w')
      | fi, ca => Call P g (argsOf fi ca vs).toArray w (fun v w' => put n o.dst v E fun E' => K D E' w') (fun c w' => Q (.panic c) D E w'))
    | _ => False)
  | .panic x => (match ev E x with
    | some (.iface t v) => Q (.panic [{ v := .iface t v, recovered := false }]) D E w
    | _ => False)
  | .defer { callee := .value f, args := args, argTypes := _ } => (match ev E f with
    | some (.func fn fi ca) => evs E args.toList fun vs => (match fi.toList with
      | [] => put n o.dst undef E fun E' => K ({ target := .fn fn ca, args := vs.toArray } :: D) E' w
      | _ => False)
    | _ => False)
  | op => xop P τ false op o.type E w fun v w' => put n o.dst v E fun E' => K D E' w'
noncomputable def xops (P : Program) (τ : TT) (n : Nat) (all : List Oper) (Q : XQ) : List Oper → List Deferred → Env → World → Prop
  | [], D, E, w => Q .normal D E w
  | o :: r, D, E, w => match o.guard with
    | none => xexec P τ n Q o D E w fun D E w => xops P τ n all Q r D E w
    | some (j, want) => match dstOf all j with
      | none => False
      | some d => match look E d with
        | some (.bool c) => guardP want c (xexec P τ n Q o D ((d, .bool want) :: E) w fun D E w => xops P τ n all Q r D E w) (put n o.dst undef ((d, .bool (!want)) :: E) fun E' => xops P τ n all Q r D E' w)
        | some (.tuple _) => put n o.dst undef E fun E' => xops P τ n all Q r D E' w
        | _ => False
/-- What is not looked into: a piece of code. -/
structure Sat (P : Program) (n : Nat) (c : Code) (Q : XQ) (D : List Deferred) (E : Env) (w : World) : Prop where
  out : ∀ a : Act, Fits n E a.tmps → a.defers = D → c.wp P (lift n Q) a w
/-- A loop; a region that draws its order. -/
structure LoopP (P : Program) (τ : TT) (n : Nat) (c : Code) (Q : XQ) (D : List Deferred) (E : Env) (w : World) : Prop where
  out : Sat P n (.loop c) Q D E w
structure DrawP (P : Program) (τ : TT) (n : Nat) (id : Nat) (ops : Array Oper) (Q : XQ) (D : List Deferred) (E : Env) (w : World) : Prop where
  out : Sat P n (.region id ops true) Q D E w
noncomputable def xcode (P : Program) (τ : TT) (n : Nat) : Code → XQ → List Deferred → Env → World → Prop
  | .skip, Q, D, E, w => Q .normal D E w
  | .seq a b, Q, D, E, w => xcode P τ n a (fun e D E w => match e with
    | .normal => xcode P τ n b Q D E w
    | e => Q e D E w) D E w
  | .cond c x y, Q, D, E, w => (match ev E c with
    | some (.bool b) => condP b (xcode P τ n x Q D E w) (xcode P τ n y Q D E w)
    | _ => False)
  | .block id c, Q, D, E, w => xcode P τ n c (fun e D E w => match e with
    | .exit j => (match Nat.beq j id with
      | true => Q .normal D E w
      | false => Q (.exit j) D E w)
    | e => Q e D E w) D E w
  | .exit id, Q, D, E, w => Q (.exit id) D E w
  | .ret, Q, D, E, w => Q .ret D E w
  | .loop c, Q, D, E, w => LoopP P τ n c Q D E w
  | .region id ops draw, Q, D, E, w => (match draw with
    | false => xops P τ n ops.toList Q ops.toList D E w
    | true => DrawP P τ n id ops Q D E w)
  | c, Q, D, E, w => Sat P n c Q D E w
variable {P : Program} {τ : TT} {n : Nat}
theorem put_out {dst : Option Tmp} {v : Value} {E : Env} {K : Env → Prop} (h : put n dst v E K) {a : Act} (hf : Fits n E a.tmps) : ∃ E', K E' ∧ Fits n E' (a.put dst v).tmps := by
  unfold put at h
  split at h
  · rename_i d
    split at h
    · rename_i hb
      exact ⟨_, h, hf.put v (Nat.lt_of_lt_of_le (Nat.lt_succ_self d) (Nat.le_of_ble_eq_true hb))⟩
    · exact h.elim
  · exact ⟨E, h, hf⟩
theorem put_defers (a : Act) (dst : Option Tmp) (v : Value) : (a.put dst v).defers = a.defers := by cases dst <;> rfl
theorem lets {Q : XQ} {h : Prop} : True := trivial
theorem call_out {g : FuncId} {args : Array Value} {w : World} {R : Value → World → Prop} {S : List PanicEntry → World → Prop} (h : Call P g args w R S) {a : Act} {o : Oper} {f : Operand} {xs : Array Operand} {ts : Array TypeId} {fi ca : Array Value}
    (ho : o.op = .call { callee := .value f, args := xs, argTypes := ts }) (hfv : a.eval f = .func (.func g) fi ca) (ha : fi ++ xs.map a.eval ++ ca = args) {next : Act → World → Prop} {Q : Exit → Act → World → Prop}
    (hr : ∀ v w', R v w' → next (a.put o.dst v) w') (hs : ∀ c w', S c w' → Q (.panic c) a w') : o.wp P a w next Q := by
  obtain ⟨⟨fn, hfn, hname, hbody⟩, hcall⟩ := h
  have hrun : (execOp a.eval o).run P w = .ok (.enter g args) w := by
    unfold execOp
    rw [ho]
    have h1 : (resolve a.eval { callee := .value f, args := xs, argTypes := ts } o.type).run P w = .ok { target := .fn (.func g) ca, args := fi ++ xs.map a.eval } w := by
      simp [resolve, Deferred.ofValue, hfv]
    simp only [Sem.run_bind, h1, Result.andThen_ok, invoke, ha, callFunc]
    have hprog : (program).run P w = .ok P w := rfl
    simp only [hprog, Result.andThen_ok, hfn, hname, hbody, Bool.false_eq_true, if_false, Sem.run_pure]
  unfold Oper.wp
  rw [hrun, Oper.upon_enter]
  refine hcall.mono ?_
  rintro e w' (⟨v, rfl, hv⟩ | ⟨c, rfl, hc⟩)
  · exact hr v w' hv
  · exact hs c w' hc
theorem xexec_sound (hτ : TOk P τ) {Q : XQ} {o : Oper} {D : List Deferred} {E : Env} {w : World} {K : List Deferred → Env → World → Prop} (h : xexec P τ n Q o D E w K) {a : Act} (hf : Fits n E a.tmps) (hd : a.defers = D)
    {next : Act → World → Prop} (hk : ∀ D' E' w' a', K D' E' w' → Fits n E' a'.tmps → a'.defers = D' → next a' w') : o.wp P a w next (lift n Q) := by
  unfold xexec at h
  split at h
  · rename_i f args ts hop
    split at h
    · rename_i g fi ca hfv
      have h1 := evs_eval hf h
      have hmap : (args.map a.eval) = (args.toList.map a.eval).toArray := by rw [← Array.toList_map, Array.toArray_toList]
      split at h1
      · rename_i hfi hca
        have e1 : fi = #[] := Array.toList_inj.1 (by simpa using hfi)
        have e2 : ca = #[] := Array.toList_inj.1 (by simpa using hca)
        subst e1; subst e2
        refine call_out h1 hop (hf.eval hfv) (by rw [hmap]; simp) (fun v w' hv => ?_) (fun c w' hc => lift_mk hf (by rw [hd]; exact hc))
        obtain ⟨E', hK, hf'⟩ := put_out hv hf
        exact hk _ _ _ _ hK hf' (by rw [put_defers]; exact hd)
      · refine call_out h1 hop (hf.eval hfv) (by unfold argsOf; rw [hmap]; apply Array.toList_inj.1; simp) (fun v w' hv => ?_) (fun c w' hc => lift_mk hf (by rw [hd]; exact hc))
        obtain ⟨E', hK, hf'⟩ := put_out hv hf
        exact hk _ _ _ _ hK hf' (by rw [put_defers]; exact hd)
    · exact h.elim
  · rename_i x hop
    split at h
    · rename_i t v hx
      have hrun : (execOp a.eval o).run P w = .halt (.panic (.iface t v)) w := by
        unfold execOp
        rw [hop]
        simp [Instr.panic, hf.eval hx, goPanic]
      unfold Oper.wp
      rw [hrun, Oper.upon_panic]
      exact lift_mk hf (by rw [hd]; exact h)
    · exact h.elim
  · rename_i f args ts hop
    split at h
    · rename_i fn fi ca hfv
      have h1 := evs_eval hf h
      split at h1
      · rename_i hfi
        have e1 : fi = #[] := Array.toList_inj.1 (by simpa using hfi)
        subst e1
        have hrun : (execOp a.eval o).run P w = .ok (.defer { target := .fn fn ca, args := (args.toList.map a.eval).toArray }) w := by
          unfold execOp
          rw [hop]
          have hmap : (args.map a.eval) = (args.toList.map a.eval).toArray := by rw [← Array.toList_map, Array.toArray_toList]
          simp [resolve, Deferred.ofValue, hf.eval hfv, hmap]
        unfold Oper.wp
        rw [hrun, Oper.upon_defer]
        obtain ⟨E', hK, hf'⟩ := put_out (a := { a with defers := { target := .fn fn ca, args := (args.toList.map a.eval).toArray } :: a.defers }) h1 hf
        exact hk _ _ _ _ hK hf' (by rw [put_defers, hd])
      · exact h1.elim
    · exact h.elim
  · rename_i h1 h2 h3
    rcases xop_sound hτ (o := o) hf h with ⟨v, w', hr, hK⟩ | ⟨w', hr, hK⟩
    · unfold Oper.wp
      rw [hr, Oper.upon_value]
      obtain ⟨E', hK', hf'⟩ := put_out hK hf
      exact hk _ _ _ _ hK' hf' (by rw [put_defers]; exact hd)
    · unfold Oper.wp
      rw [hr, Oper.upon_skip]
      obtain ⟨E', hK', hf'⟩ := put_out hK hf
      exact hk _ _ _ _ hK' hf' (by rw [put_defers]; exact hd)

theorem yielded_eq {all : Array Oper} {E : Env} {a : Act} (hf : Fits n E a.tmps) {j : Nat} {d : Tmp} (hd : dstOf all.toList j = some d) {v : Value} (hv : look E d = some v) :
    yielded all a.tmps j = match v with | .bool b => some b | _ => none := by
  rw [dstOf_eq] at hd
  unfold yielded
  rw [← Array.getElem?_toList, hd]
  simp only [Option.bind_some, hf.2 d v hv]
  cases v <;> rfl
theorem Fits.same {E : Env} {t : Array Value} (h : Fits n E t) {d : Nat} {v : Value} (hv : look E d = some v) : Fits n ((d, v) :: E) t := by
  refine ⟨h.1, fun i u hi => ?_⟩
  simp only [look] at hi
  split at hi
  · rename_i hb
    obtain rfl : d = i := Nat.eq_of_beq_eq_true hb
    cases hi
    exact h.2 d v hv
  · exact h.2 i u hi
theorem xops_sound (hτ : TOk P τ) {all : Array Oper} {Q : XQ} : ∀ (r : List Oper) (D : List Deferred) (E : Env) (w : World), xops P τ n all.toList Q r D E w → ∀ a : Act, Fits n E a.tmps → a.defers = D → wpList P all (lift n Q) r a w
  | [], D, E, w, h, a, hf, hd => wpList_nil (lift_mk hf (by rw [hd]; exact h))
  | o :: r, D, E, w, h, a, hf, hd => by
    simp only [xops] at h
    refine wpList_step fun K hK => ?_
    split at h
    · rename_i hg
      rw [if_pos (by simp [Region.wanted, hg])]
      exact xexec_sound hτ h hf hd fun D' E' w' a' hx hf' hd' => hK _ _ (xops_sound hτ r D' E' w' hx a' hf' hd')
    · rename_i j want hg
      split at h
      · exact h.elim
      · rename_i d hj
        split at h
        · rename_i c hc
          have hy : yielded all a.tmps j = some c := yielded_eq hf hj hc
          have hw : Region.wanted o (yielded all a.tmps) = (c == want) := by simp [Region.wanted, hg, hy]
          unfold guardP condP at h
          cases want <;> cases c <;> simp only [] at h
          · rw [if_pos (by rw [hw]; rfl)]
            exact xexec_sound hτ h (hf.same hc) hd fun D' E' w' a' hx hf' hd' => hK _ _ (xops_sound hτ r D' E' w' hx a' hf' hd')
          · rw [if_neg (by rw [hw]; decide)]
            obtain ⟨E', hK', hf'⟩ := put_out h (hf.same hc)
            exact hK _ _ (xops_sound hτ r D E' w hK' _ hf' (by rw [put_defers]; exact hd))
          · rw [if_neg (by rw [hw]; decide)]
            obtain ⟨E', hK', hf'⟩ := put_out h (hf.same hc)
            exact hK _ _ (xops_sound hτ r D E' w hK' _ hf' (by rw [put_defers]; exact hd))
          · rw [if_pos (by rw [hw]; rfl)]
            exact xexec_sound hτ h (hf.same hc) hd fun D' E' w' a' hx hf' hd' => hK _ _ (xops_sound hτ r D' E' w' hx a' hf' hd')
        · rename_i vs hc
          have hy : yielded all a.tmps j = none := yielded_eq hf hj hc
          rw [if_neg (by simp [Region.wanted, hg, hy])]
          obtain ⟨E', hK', hf'⟩ := put_out h hf
          exact hK _ _ (xops_sound hτ r D E' w hK' _ hf' (by rw [put_defers]; exact hd))
        · exact h.elim
theorem sat_out {c : Code} {Q : XQ} {D : List Deferred} {E : Env} {w : World} (h : Sat P n c Q D E w) {a : Act} (hf : Fits n E a.tmps) (hd : a.defers = D) : c.wp P (lift n Q) a w := by
  exact h.out a hf hd
theorem xcode_sound (hτ : TOk P τ) : ∀ (c : Code) (Q : XQ) (D : List Deferred) (E : Env) (w : World), xcode P τ n c Q D E w → ∀ a : Act, Fits n E a.tmps → a.defers = D → c.wp P (lift n Q) a w
  | .skip, Q, D, E, w, h, a, hf, hd => wp_skip (lift_mk hf (by rw [hd]; exact h))
  | .exit id, Q, D, E, w, h, a, hf, hd => wp_exit (lift_mk hf (by rw [hd]; exact h))
  | .ret, Q, D, E, w, h, a, hf, hd => wp_ret (lift_mk hf (by rw [hd]; exact h))
  | .seq x y, Q, D, E, w, h, a, hf, hd => by
    refine wp_seq (wp_mono (xcode_sound hτ x _ D E w h a hf hd) ?_)
    rintro e a1 w1 ⟨E1, hf1, h1⟩
    cases e with
    | normal => exact xcode_sound hτ y Q _ E1 w1 h1 a1 (hf1.resolve_right id) rfl
    | _ => exact ⟨E1, hf1, h1⟩
  | .cond c x y, Q, D, E, w, h, a, hf, hd => by
    simp only [xcode] at h
    split at h
    · rename_i b hb
      refine wp_cond (t := b) (hf.eval hb) ?_
      cases b
      · exact xcode_sound hτ y Q D E w h a hf hd
      · exact xcode_sound hτ x Q D E w h a hf hd
    · exact h.elim
  | .block id c, Q, D, E, w, h, a, hf, hd => by
    refine wp_block (wp_mono (xcode_sound hτ c _ D E w h a hf hd) ?_)
    rintro e a1 w1 ⟨E1, hf1, h1⟩
    cases e with
    | exit j =>
      simp only [] at h1
      split at h1
      · rename_i hb
        have := Nat.eq_of_beq_eq_true hb
        simp only [Exit.inBlock, this, if_true]
        exact ⟨E1, hf1, h1⟩
      · rename_i hb
        have := Nat.ne_of_beq_eq_false hb
        simp only [Exit.inBlock, this, if_false]
        exact ⟨E1, hf1, h1⟩
    | _ => exact ⟨E1, hf1, h1⟩
  | .loop c, Q, D, E, w, h, a, hf, hd => by
    simp only [xcode] at h; exact sat_out h.out hf hd
  | .region id ops draw, Q, D, E, w, h, a, hf, hd => by
    simp only [xcode] at h
    split at h
    · exact wp_region_list (xops_sound hτ ops.toList D E w h a hf hd)
    · exact sat_out h.out hf hd
  | .rangeFunc f ps as bd, Q, D, E, w, h, a, hf, hd => sat_out h hf hd
  | .scope c, Q, D, E, w, h, a, hf, hd => sat_out h hf hd
  | .label l, Q, D, E, w, h, a, hf, hd => sat_out h hf hd
  | .goto l, Q, D, E, w, h, a, hf, hd => sat_out h hf hd
  | .refuse y, Q, D, E, w, h, a, hf, hd => sat_out h hf hd

/-! ## Loops -/
def gets (E : Env) : List Nat → (List Value → Prop) → Prop
  | [], k => k []
  | i :: r, k => match look E i with
    | some v => gets E r fun vs => k (v :: vs)
    | none => False
def zipE : List Nat → List Value → Env → Env
  | i :: r, v :: vs, F => (i, v) :: zipE r vs F
  | _, _, F => F
theorem gets_out {E : Env} : ∀ (l : List Nat) (k : List Value → Prop), gets E l k → ∃ vs, k vs ∧ vs.length = l.length ∧ ∀ (n : Nat) (t : Array Value) (F : Env), Fits n E t → Fits n F t → Fits n (zipE l vs F) t
  | [], k, h => ⟨[], h, rfl, fun _ _ _ _ hF => hF⟩
  | i :: r, k, h => by
    simp only [gets] at h
    split at h
    · rename_i v hv
      obtain ⟨vs, hk, hl, hz⟩ := gets_out r _ h
      refine ⟨v :: vs, hk, by simp [hl], fun n t F hE hF => ?_⟩
      have h1 := hz n t F hE hF
      refine ⟨h1.1, fun j u hj => ?_⟩
      simp only [zipE, look] at hj
      split at hj
      · rename_i hb
        obtain rfl := Nat.eq_of_beq_eq_true hb
        cases hj
        exact hE.2 _ _ hv
      · exact h1.2 j u hj
    · exact h.elim
theorem Fits.nil' {E : Env} {t : Array Value} (h : Fits n E t) : Fits n [] t := ⟨h.1, fun _ _ h => by cases h⟩
/-- What a round comes to. -/
def roundQ (keep slots : List Nat) (fs : List Value) (I : List Value → World → Prop) (lower : List Value → World → Prop) (D : List Deferred) (Q : XQ) : XQ
  | .normal, D', E', w' => gets E' keep fun fs' => gets E' slots fun vs' => (D' = D ∧ fs' = fs) ∧ I vs' w' ∧ lower vs' w'
  | e, D', E', w' => Q e D' E' w'
theorem loop_rule (hτ : TOk P τ) (slots keep : List Nat) (I : List Value → World → Prop) (μ : List Value → World → Nat) {c : Code} {Q : XQ} {D : List Deferred} {E : Env} {w : World}
    (h : gets E keep fun fs => (gets E slots fun vs => I vs w) ∧ ∀ vs w, I vs w → xcode P τ n c (roundQ keep slots fs I (fun vs' w' => μ vs' w' < μ vs w) D Q) D (zipE slots vs (zipE keep fs [])) w) : LoopP P τ n c Q D E w := by
  refine ⟨⟨?_⟩⟩
  intro a hf hd
  obtain ⟨fs', ⟨h1, hr⟩, hl2, hz2⟩ := gets_out keep _ h
  obtain ⟨vs, hI, hl, hz⟩ := gets_out slots _ h1
  have hF := hz n a.tmps _ hf (hz2 n a.tmps [] hf hf.nil')
  refine wp_loop_ghost (fun m a' w' => ∃ vs', I vs' w' ∧ μ vs' w' = m ∧ Fits n (zipE slots vs' (zipE keep fs' [])) a'.tmps ∧ a'.defers = D) _ ⟨vs, hI, rfl, hF, hd⟩ ?_
  rintro m a1 w1 ⟨vs1, hI1, rfl, hf1, hd1⟩
  refine wp_mono (xcode_sound hτ c _ D _ w1 (hr vs1 w1 hI1) a1 hf1 hd1) ?_
  rintro e a2 w2 ⟨E2, hf2, h2⟩
  cases e with
  | normal =>
    have hf2 := hf2.resolve_right id
    obtain ⟨fs2, h3, _, hz3⟩ := gets_out keep _ h2
    obtain ⟨vs2, ⟨⟨hD, rfl⟩, hI2, hlt⟩, _, hz4⟩ := gets_out slots _ h3
    exact ⟨_, hlt, vs2, hI2, rfl, hz4 n a2.tmps _ hf2 (hz3 n a2.tmps [] hf2 hf2.nil'), hD⟩
  | _ => exact ⟨E2, hf2, h2⟩

/-! ## Functions -/
def envOf : Nat → List Value → Env
  | _, [] => []
  | i, v :: r => (i, v) :: envOf (i + 1) r
theorem envOf_look : ∀ (l : List Value) (k i : Nat) (v : Value), look (envOf k l) i = some v → k ≤ i ∧ l[i - k]? = some v
  | [], k, i, v, h => by cases h
  | u :: r, k, i, v, h => by
    simp only [envOf, look] at h
    split at h
    · rename_i hb
      obtain rfl := Nat.eq_of_beq_eq_true hb
      cases h
      exact ⟨Nat.le_refl _, by simp⟩
    · obtain ⟨h1, h2⟩ := envOf_look r (k + 1) i v h
      refine ⟨by omega, ?_⟩
      rw [show i - k = (i - (k + 1)) + 1 by omega]
      simpa using h2
theorem envOf_fits {n : Nat} {args : Array Value} (h : args.size ≤ n) : Fits n (envOf 0 args.toList) (args ++ Array.replicate (n - args.size) undef) := by
  refine ⟨by simp; omega, fun i v hi => ?_⟩
  obtain ⟨_, h2⟩ := envOf_look _ _ _ _ hi
  simp only [Nat.sub_zero] at h2
  have h3 : args[i]? = some v := by simpa using h2
  have hlt : i < args.size := (Array.getElem?_eq_some_iff.1 h3).1
  rw [Array.getElem?_append_left hlt]; exact h3
def pack : List Value → Value
  | [v] => v
  | vs => .tuple vs.toArray
def packP (R : Value → World → Prop) (w : World) : List Value → Prop
  | [v] => R v w
  | [] => R (.tuple #[]) w
  | u :: v :: r => R (.tuple (u :: v :: r).toArray) w
/-- What the result slots bear. -/
def resP (P : Program) (τ : TT) (E : Env) (w : World) : List ResultVar → (List Value → Prop) → Prop
  | [], k => k []
  | .tmp t :: r, k => match look E t with
    | some v => resP P τ E w r fun vs => k (v :: vs)
    | none => False
  | .cell a t :: r, k => match look E a with
    | some (.pointer (some ad)) => match tlook τ t with
      | some i => match i.td with
        | .struct _ => ∃ cs : List Value, cs.length = i.size ∧ CellsAt w ad cs ∧ resP P τ E w r fun vs => k (.agg cs.toArray :: vs)
        | _ => ∃ v, w.cell? ad = some v ∧ resP P τ E w r fun vs => k (v :: vs)
      | none => False
    | _ => False
def retQ (P : Program) (τ : TT) (rs : List ResultVar) (R : Value → World → Prop) (S : List PanicEntry → World → Prop) : XQ
  | .normal, [], E, w => resP P τ E w rs (packP R w)
  | .ret, [], E, w => resP P τ E w rs (packP R w)
  | .panic c, [], E, w => S c w
  | _, _, _, _ => False
def resOne (a : Array Value) : ResultVar → Sem Value
  | .tmp t => pure (a.getD t undef)
  | .cell b t => do loadVar t (← asAddr (a.getD b undef))
theorem resP_out (hτ : TOk P τ) {E : Env} {w : World} {a : Array Value} (hf : Fits n E a) : ∀ (l : List ResultVar) (k : List Value → Prop), resP P τ E w l k → ∃ vs, k vs ∧ (l.mapM (resOne a)).run P w = .ok vs w
  | [], k, h => ⟨[], h, by simp⟩
  | .tmp t :: r, k, h => by
    simp only [resP] at h
    split at h
    · rename_i v hv
      obtain ⟨vs, hk, hm⟩ := resP_out hτ hf r _ h
      refine ⟨v :: vs, hk, ?_⟩
      rw [List.mapM_cons]
      simp [resOne, Array.getD_eq_getD_getElem?, hf.2 t v hv, hm]
    · exact h.elim
  | .cell b t :: r, k, h => by
    simp only [resP] at h
    split at h
    · rename_i ad hv
      have hb : a.getD b undef = .pointer (some ad) := by simp [Array.getD_eq_getD_getElem?, hf.2 _ _ hv]
      split at h
      · rename_i i hi
        have ht := hτ t i hi
        split at h
        · rename_i fs hfs
          obtain ⟨cs, hl, hc, h⟩ := h
          obtain ⟨vs, hk, hm⟩ := resP_out hτ hf r _ h
          refine ⟨_, hk, ?_⟩
          have := loadVar_agg (P := P) ht (by rw [hfs]; rfl) hl hc
          rw [List.mapM_cons]
          simp [resOne, hb, asAddr, this, hm]
        · rename_i hn
          obtain ⟨v, hc, h⟩ := h
          obtain ⟨vs, hk, hm⟩ := resP_out hτ hf r _ h
          refine ⟨_, hk, ?_⟩
          have hag : i.td.agg = false := by cases htd : i.td <;> simp_all [TD.agg]
          have := loadVar_one (P := P) ht hag hc
          rw [List.mapM_cons]
          simp [resOne, hb, asAddr, this, hm]
      · exact h.elim
    · exact h.elim
theorem results_run (hτ : TOk P τ) {E : Env} {w : World} {a : Array Value} (hf : Fits n E a) {fn : Func} {R : Value → World → Prop} (h : resP P τ E w fn.results.toList (packP R w)) : ∃ v, (results fn a).run P w = .ok v w ∧ R v w := by
  obtain ⟨vs, hk, hm⟩ := resP_out hτ hf _ _ h
  refine ⟨pack vs, ?_, (by match vs, hk with | [], hk => exact hk | [v], hk => exact hk | u :: v :: r, hk => exact hk)⟩
  have h1 : (fn.results.mapM (resOne a)).run P w = .ok vs.toArray w := by
    rw [← Array.toArray_toList (xs := fn.results), List.mapM_toArray, Sem.run_map, hm]
    rfl
  have h2 : (results fn a).run P w = ((fn.results.mapM (resOne a)).run P w).andThen fun vs w => .ok (if h : vs.size = 1 then vs[0] else .tuple vs) w := by
    unfold results
    rw [Sem.run_bind]
    have : (fun | .tmp t => pure (a.getD t undef) | .cell b t => do loadVar t (← asAddr (a.getD b undef)) : ResultVar → Sem Value) = resOne a := by
      funext r; cases r <;> rfl
    first
      | rw [this]; rfl
      | (show ((fn.results.mapM (resOne a)).run P w).andThen _ = _; rfl)
  rw [h2, h1]
  simp only [Result.andThen_ok]
  match vs with
  | [] => rfl
  | [v] => rfl
  | u :: v :: r => simp [pack]
theorem fn_call (hτ : TOk P τ) {f : FuncId} {fn : Func} {c : Code} {args : Array Value} {w : World} {R : Value → World → Prop} {S : List PanicEntry → World → Prop} (hf : P.funcs[f]? = some fn) (hname : (fn.name == "runtime.NumGoroutine") = false)
    (hb : fn.body = some c) (ha : Nat.ble args.size fn.ntmps = true) (h : xcode P τ fn.ntmps c (retQ P τ fn.results.toList R S) [] (envOf 0 args.toList) w) : Call P f args w R S := by
  refine ⟨⟨fn, hf, hname, by rw [hb]; rfl⟩, calls_of_wp hf hb ?_⟩
  refine wp_mono (xcode_sound hτ c _ [] _ w h _ (envOf_fits (Nat.le_of_ble_eq_true ha)) rfl) ?_
  rintro e a2 w2 ⟨E2, hf2, h2⟩
  cases hd : a2.defers with
  | cons d ds => rw [hd] at h2; cases e <;> exact h2.elim
  | nil =>
  rw [hd] at h2
  cases e with
  | normal => obtain ⟨v, hr, hR⟩ := results_run hτ (hf2.resolve_right id) h2; exact ⟨hd, v, hr, .inl ⟨v, rfl, hR⟩⟩
  | ret => obtain ⟨v, hr, hR⟩ := results_run hτ (hf2.resolve_right id) h2; exact ⟨hd, v, hr, .inl ⟨v, rfl, hR⟩⟩
  | panic c => exact ⟨hd, .inr ⟨c, rfl, h2⟩⟩
  | exit id => exact h2.elim
  | goto l => exact h2.elim
  | outgrown => exact h2.elim
theorem Call.ret {f : FuncId} {args : Array Value} {w : World} {R : Value → World → Prop} (h : Call P f args w R fun _ _ => False) : Ret P f args w R := by
  exact ⟨h.1, h.2.mono fun e w' => fun | .inl h => h | .inr ⟨_, _, h⟩ => h.elim⟩
theorem fn_ret (hτ : TOk P τ) {f : FuncId} {fn : Func} {c : Code} {args : Array Value} {w : World} {R : Value → World → Prop} (hf : P.funcs[f]? = some fn) (hname : (fn.name == "runtime.NumGoroutine") = false)
    (hb : fn.body = some c) (ha : Nat.ble args.size fn.ntmps = true) (h : xcode P τ fn.ntmps c (retQ P τ fn.results.toList R fun _ _ => False) [] (envOf 0 args.toList) w) : Ret P f args w R :=
  (fn_call hτ hf hname hb ha h).ret
end Go.Proofs.YtfeegacmmfgjfaaGreatDoorX

/-!  The framework, part D: regions whose order is drawn. -/
set_option linter.unusedVariables false
set_option linter.unusedSimpArgs false
namespace Go.Proofs.YtfeegacmmfgjfaaGreatDoorX
open Go
variable {P : Program} {τ : TT} {n : Nat}

def isPure : Op → Bool
  | .move _ | .assign _ | .pick .. | .binOp .. | .unOp .. | .convert .. | .fieldAddr .. | .field .. | .indexAddr .. | .index .. | .extract .. | .slice .. | .build .. | .makeFunc .. | .makeInterface .. | .nilCheck _ => true
  | .call { callee := .builtin .len, args := _, argTypes := _ } => true
  | .call { callee := .builtin .cap, args := _, argTypes := _ } => true
  | .call { callee := .builtin .max, args := _, argTypes := _ } => true
  | .call { callee := .builtin .min, args := _, argTypes := _ } => true
  | _ => false
def isRead : Op → Bool
  | .load .. => true
  | op => isPure op
theorem evs_det {E : Env} : ∀ (l : List Operand) (k : List Value → Prop), evs E l k → ∃ vs, k vs ∧ ∀ k' : List Value → Prop, k' vs → evs E l k'
  | [], k, h => ⟨[], h, fun _ h => h⟩
  | x :: r, k, h => by
    simp only [evs] at h ⊢
    split at h
    · rename_i v hv
      obtain ⟨vs, hk, hd⟩ := evs_det r _ h
      exact ⟨v :: vs, hk, fun k' hk' => hd _ hk'⟩
    · exact h.elim
theorem xfill_det {fs : List (Nat × TypeId)} {E : Env} : ∀ (l : List (Nat × Operand)) (c : List Value) (k : List Value → Prop), xfill τ fs E l c k → ∃ vs, k vs ∧ ∀ k' : List Value → Prop, k' vs → xfill τ fs E l c k'
  | [], c, k, h => ⟨c, h, fun _ h => h⟩
  | (i, x) :: r, c, k, h => by
    simp only [xfill] at h ⊢
    split at h
    · split at h
      · split at h
        · obtain ⟨vs, hk, hd⟩ := xfill_det r _ k h
          exact ⟨vs, hk, fun k' hk' => hd k' hk'⟩
        · exact h.elim
      · exact h.elim
    · exact h.elim
theorem xbin_det {op : BinOp} {a b : Value} {w : World} {K : Value → World → Prop} (h : xbin op a b w K False) : ∃ v, K v w ∧ ∀ w' : World, xbin op a b w' (fun u w'' => u = v ∧ w'' = w') False := by
  unfold xbin at h ⊢
  split at h
  · rename_i k p k' q
    cases op
    case shl => obtain ⟨h0, h⟩ := h; exact ⟨_, h.out, fun w' => ⟨h0, ⟨⟨rfl, rfl⟩⟩⟩⟩
    case shr => obtain ⟨h0, h⟩ := h; exact ⟨_, h, fun w' => ⟨h0, rfl, rfl⟩⟩
    case add => obtain ⟨rfl, h2⟩ := sameK.out h; exact ⟨_, h2.out, fun w' => sameK.of ⟨⟨rfl, rfl⟩⟩⟩
    case sub => obtain ⟨rfl, h2⟩ := sameK.out h; exact ⟨_, h2.out, fun w' => sameK.of ⟨⟨rfl, rfl⟩⟩⟩
    case mul => obtain ⟨rfl, h2⟩ := sameK.out h; exact ⟨_, h2.out, fun w' => sameK.of ⟨⟨rfl, rfl⟩⟩⟩
    case quo => obtain ⟨rfl, h0, h2⟩ := sameK.out h; exact ⟨_, h2.out, fun w' => sameK.of ⟨h0, ⟨⟨rfl, rfl⟩⟩⟩⟩
    case rem => obtain ⟨rfl, h0, h2⟩ := sameK.out h; exact ⟨_, h2, fun w' => sameK.of ⟨h0, rfl, rfl⟩⟩
    case eql => obtain ⟨rfl, h2⟩ := sameK.out h; exact ⟨_, h2, fun w' => sameK.of ⟨rfl, rfl⟩⟩
    case neq => obtain ⟨rfl, h2⟩ := sameK.out h; exact ⟨_, h2, fun w' => sameK.of ⟨rfl, rfl⟩⟩
    case lss => obtain ⟨rfl, h2⟩ := sameK.out h; exact ⟨_, h2, fun w' => sameK.of ⟨rfl, rfl⟩⟩
    case leq => obtain ⟨rfl, h2⟩ := sameK.out h; exact ⟨_, h2, fun w' => sameK.of ⟨rfl, rfl⟩⟩
    case gtr => obtain ⟨rfl, h2⟩ := sameK.out h; exact ⟨_, h2, fun w' => sameK.of ⟨rfl, rfl⟩⟩
    case geq => obtain ⟨rfl, h2⟩ := sameK.out h; exact ⟨_, h2, fun w' => sameK.of ⟨rfl, rfl⟩⟩
    all_goals
      obtain ⟨rfl, h2⟩ := sameK.out h
      exact h2.elim
  · rename_i p q
    cases op
    case add => obtain ⟨h0, h⟩ := h; exact ⟨_, h, fun w' => ⟨h0, rfl, rfl⟩⟩
    all_goals first
      | exact h.elim
      | exact ⟨_, h, fun w' => ⟨rfl, rfl⟩⟩
  · exact h.elim
theorem xop_pure {op : Op} {ty : TypeId} {E : Env} {w : World} {K : Value → World → Prop} (hp : isPure op = true) (h : xop P τ true op ty E w K) : ∃ v, K v w ∧ ∀ w' : World, xop P τ true op ty E w' (fun u w'' => u = v ∧ w'' = w') := by
  unfold xop at h ⊢
  split at h
  case h_1 x =>
    split at h
    · exact ⟨_, h, fun w' => ⟨rfl, rfl⟩⟩
    · exact h.elim
  case h_2 x =>
    split at h
    · exact ⟨_, h, fun w' => ⟨rfl, rfl⟩⟩
    · exact h.elim
  case h_3 c x y =>
    split at h
    · rename_i c' va vb hc ha hb
      cases c'
      · exact ⟨vb, h, fun w' => (⟨rfl, rfl⟩ : vb = vb ∧ w' = w')⟩
      · exact ⟨va, h, fun w' => (⟨rfl, rfl⟩ : va = va ∧ w' = w')⟩
    · exact h.elim
  case h_6 t parts =>
    split at h
    · split at h
      · split at h
        · obtain ⟨vs, hk, hd⟩ := xfill_det _ _ _ h
          exact ⟨_, hk, fun w' => hd _ ⟨rfl, rfl⟩⟩
        · exact h.elim
      · exact h.elim
    · exact h.elim
  case h_10 x =>
    split at h
    · exact ⟨_, h, fun w' => ⟨rfl, rfl⟩⟩
    · exact ⟨_, h, fun w' => ⟨rfl, rfl⟩⟩
    · exact ⟨_, h, fun w' => ⟨rfl, rfl⟩⟩
    · exact h.elim
  case h_11 bop t x y yt =>
    split at h
    · split at h
      · exact ⟨_, h, fun w' => ⟨rfl, rfl⟩⟩
      · exact ⟨_, h, fun w' => ⟨rfl, rfl⟩⟩
      · exact h.elim
    · exact xbin_det h
    · exact h.elim
  case h_12 uop t x =>
    split at h
    · exact ⟨_, h, fun w' => ⟨rfl, rfl⟩⟩
    · exact ⟨_, h.out, fun w' => ⟨⟨rfl, rfl⟩⟩⟩
    · exact h.elim
  case h_13 s t x =>
    split at h
    · exact ⟨_, h.out, fun w' => ⟨⟨rfl, rfl⟩⟩⟩
    · exact ⟨_, h, fun w' => ⟨rfl, rfl⟩⟩
    · exact h.elim
  case h_14 t x =>
    split at h
    · exact h.elim
    · rename_i v i hn hx hi
      exact ⟨_, h, fun w' => ⟨rfl, rfl⟩⟩
    · exact h.elim
  case h_15 fn fi ca =>
    obtain ⟨vs, hk, hd⟩ := evs_det _ _ h
    obtain ⟨vs2, hk2, hd2⟩ := evs_det _ _ hk
    exact ⟨_, hk2, fun w' => hd _ (hd2 _ ⟨rfl, rfl⟩)⟩
  case h_18 t x lo hi mx =>
    split at h
    · exact h.elim
    · split at h
      · split at h
        · obtain ⟨h1, h2⟩ := h; exact ⟨_, h2, fun w' => ⟨h1, rfl, rfl⟩⟩
        · exact h.elim
      · split at h
        · obtain ⟨h1, h2⟩ := h
          split at h2
          · exact ⟨_, h2, fun w' => ⟨h1, rfl, rfl⟩⟩
          · exact ⟨_, h2, fun w' => ⟨h1, rfl, rfl⟩⟩
        · exact h.elim
      · exact h.elim
  case h_19 s x f =>
    split at h
    · split at h
      · split at h
        · split at h
          · exact ⟨_, h, fun w' => ⟨rfl, rfl⟩⟩
          · exact h.elim
        · exact h.elim
      · exact h.elim
    · exact h.elim
  case h_20 s x f =>
    split at h
    · split at h
      · split at h
        · split at h
          · exact ⟨_, h, fun w' => ⟨rfl, rfl⟩⟩
          · split at h
            · exact ⟨_, h, fun w' => ⟨rfl, rfl⟩⟩
            · exact h.elim
        · exact h.elim
      · exact h.elim
    · exact h.elim
  case h_21 t x ix =>
    split at h
    · split at h
      · obtain ⟨h1, ad, rfl, h2⟩ := h; exact ⟨_, h2, fun w' => ⟨h1, ad, rfl, rfl, rfl⟩⟩
      · exact h.elim
    · exact h.elim
  case h_22 t x ix =>
    split at h
    · obtain ⟨h1, h2⟩ := h; exact ⟨_, h2, fun w' => ⟨h1, rfl, rfl⟩⟩
    · exact h.elim
  case h_23 x i =>
    split at h
    · split at h
      · exact ⟨_, h, fun w' => ⟨rfl, rfl⟩⟩
      · exact h.elim
    · exact h.elim
  case h_24 args ts =>
    split at h
    · split at h
      · exact ⟨_, h, fun w' => ⟨rfl, rfl⟩⟩
      · exact ⟨_, h, fun w' => ⟨rfl, rfl⟩⟩
      · exact h.elim
    · exact h.elim
  case h_25 args ts =>
    split at h
    · split at h
      · exact ⟨_, h, fun w' => ⟨rfl, rfl⟩⟩
      · exact h.elim
    · exact h.elim
  case h_26 args ts =>
    split at h
    · split at h
      · exact ⟨_, h, fun w' => ⟨rfl, rfl⟩⟩
      · exact h.elim
    · exact h.elim
  case h_27 args ts =>
    split at h
    · split at h
      · exact ⟨_, h, fun w' => ⟨rfl, rfl⟩⟩
      · exact h.elim
    · exact h.elim
  case h_28 => exact h.elim
  all_goals cases hp

theorem xop_read {op : Op} {ty : TypeId} {E : Env} {w : World} {K : Value → World → Prop} (hp : isRead op = true) (h : xop P τ true op ty E w K) : ∃ v, K v w ∧ xop P τ true op ty E w (fun u w'' => u = v ∧ w'' = w) := by
  cases op with
  | load t x =>
    unfold xop at h ⊢
    simp only [] at h ⊢
    split at h
    · split at h
      · split at h
        · obtain ⟨cs, h1, h2, h3⟩ := h; exact ⟨.agg cs.toArray, h3, cs, h1, h2, rfl, trivial⟩
        · obtain ⟨v, h1, h2⟩ := h; exact ⟨v, h2, v, h1, rfl, trivial⟩
      · exact h.elim
    · exact h.elim
  | _ =>
    obtain ⟨v, h1, h2⟩ := xop_pure (by simpa [isRead] using hp) h
    exact ⟨v, h1, h2 w⟩
theorem no_skip {s : Sem Value} {w w' : World} (hs : (do pure (Next.value (← s)) : Sem Next).run P w = .ok .skip w') : False := by
  rw [Sem.run_bind] at hs
  cases hq : s.run P w with
  | ok v u => rw [hq] at hs; simp at hs
  | halt hh u => rw [hq] at hs; simp at hs
/-- What an operation that only reads comes to in the model. -/
theorem read_run (hτ : TOk P τ) {o : Oper} {E : Env} {w : World} {v : Value} (hp : isRead o.op = true) (h : xop P τ true o.op o.type E w (fun u w'' => u = v ∧ w'' = w)) {a : Act} (hf : Fits n E a.tmps) : (execOp a.eval o).run P w = .ok (.value v) w := by
  rcases xop_sound hτ (o := o) hf h with ⟨u, w', hr, rfl, rfl⟩ | ⟨w', hr, hv, hw⟩
  · exact hr
  · exfalso
    obtain ⟨dst, op, ty, pos, after, guard⟩ := o
    cases op with
    | move x => simp [execOp] at hr
    | assign x => simp [execOp] at hr
    | pick c x y =>
      simp only [execOp, Sem.run_bind] at hr
      cases hq : (asBool (a.eval c)).run P w with
      | ok v u => rw [hq] at hr; simp at hr
      | halt hh u => rw [hq] at hr; simp at hr
    | nilCheck x =>
      unfold xop at h
      simp only [] at h
      split at h
      · rename_i hx; simp [execOp, hf.eval hx] at hr
      · rename_i hx; simp [execOp, hf.eval hx] at hr
      · rename_i hx; simp [execOp, hf.eval hx] at hr
      · exact h.elim
    | call c =>
      obtain ⟨callee, args, ts⟩ := c
      cases callee with
      | builtin b =>
        cases b <;> first | (cases hp; done) | (simp only [execOp, resolve, Sem.run_bind, Sem.run_pure, Result.andThen_ok, invoke, builtin] at hr; exact no_skip (by rw [Sem.run_bind]; exact hr))
      | value f => cases hp
      | invoke r m => cases hp
    | load t x => exact no_skip hr
    | binOp bop t x y yt => exact no_skip hr
    | unOp u t x => exact no_skip hr
    | convert s t x => exact no_skip hr
    | fieldAddr s x f => exact no_skip hr
    | field s x f => exact no_skip hr
    | indexAddr t x i => exact no_skip hr
    | index t x i => exact no_skip hr
    | extract t i => exact no_skip hr
    | slice t x l u m => exact no_skip hr
    | build t ps => exact no_skip hr
    | makeFunc f g c => exact no_skip hr
    | makeInterface t x => exact no_skip hr
    | _ => cases hp
theorem pure_run (hτ : TOk P τ) {o : Oper} {E : Env} {w : World} {K : Value → World → Prop} (hp : isPure o.op = true) (h : xop P τ true o.op o.type E w K) {a : Act} (hf : Fits n E a.tmps) : ∃ v, K v w ∧ ∀ w', (execOp a.eval o).run P w' = .ok (.value v) w' := by
  obtain ⟨v, hK, h2⟩ := xop_pure hp h
  exact ⟨v, hK, fun w' => read_run hτ (by cases hop : o.op <;> simp_all [isRead, isPure]) (h2 w') hf⟩

/-! ## A region of which every operation reads -/
/-- A guard in front. -/
def xguard (n : Nat) (all : List Oper) (o : Oper) (E : Env) (exec : Env → Prop) (skip : Env → Prop) : Prop :=
  match o.guard with
  | none => exec E
  | some (j, want) => match dstOf all j with
    | none => False
    | some d => match look E d with
      | some (.bool c) => guardP want c (exec ((d, .bool want) :: E)) (put n o.dst undef ((d, .bool (!want)) :: E) skip)
      | some (.tuple _) => put n o.dst undef E skip
      | _ => False
theorem xguard_out {all : Array Oper} {o : Oper} {E : Env} {exec skip : Env → Prop} (h : xguard n all.toList o E exec skip) {a : Act} (hf : Fits n E a.tmps) :
    (Region.wanted o (yielded all a.tmps) = true ∧ ∃ E', Fits n E' a.tmps ∧ exec E') ∨ (Region.wanted o (yielded all a.tmps) = false ∧ ∃ E', Fits n E' (a.put o.dst undef).tmps ∧ skip E') := by
  unfold xguard at h
  split at h
  · rename_i hg
    exact .inl ⟨by simp [Region.wanted, hg], E, hf, h⟩
  · rename_i j want hg
    split at h
    · exact h.elim
    · rename_i d hj
      split at h
      · rename_i c hc
        have hy : yielded all a.tmps j = some c := yielded_eq hf hj hc
        have hw : Region.wanted o (yielded all a.tmps) = (c == want) := by simp [Region.wanted, hg, hy]
        unfold guardP condP at h
        cases want <;> cases c <;> simp only [] at h
        · exact .inl ⟨by rw [hw]; rfl, _, hf.same hc, h⟩
        · obtain ⟨E', hK', hf'⟩ := put_out h (hf.same hc)
          exact .inr ⟨by rw [hw]; rfl, _, hf', hK'⟩
        · obtain ⟨E', hK', hf'⟩ := put_out h (hf.same hc)
          exact .inr ⟨by rw [hw]; rfl, _, hf', hK'⟩
        · exact .inl ⟨by rw [hw]; rfl, _, hf.same hc, h⟩
      · rename_i vs hc
        have hy : yielded all a.tmps j = none := yielded_eq hf hj hc
        obtain ⟨E', hK', hf'⟩ := put_out h hf
        exact .inr ⟨by simp [Region.wanted, hg, hy], _, hf', hK'⟩
      · exact h.elim
/-- What is asked of an operation in every world of a class: one value. -/
noncomputable def xqop (P : Program) (τ : TT) (C : World → Prop) (o : Oper) (E : Env) (K : Value → Prop) : Prop :=
  match o.op with
  | .call { callee := .value f, args := args, argTypes := _ } => (match ev E f with
    | some (.func (.func g) fi ca) => evs E args.toList fun vs => ∃ v, (∀ w, C w → Call P g (argsOf fi.toList ca.toList vs).toArray w (fun u w' => u = v ∧ C w') fun _ _ => False) ∧ K v
    | _ => False)
  | .load t x => (match ev E x with
    | some (.pointer (some a)) => (match tlook τ t with
      | some i => (match i.td with
        | .struct _ => ∃ cs : List Value, cs.length = i.size ∧ (∀ w, C w → CellsAt w a cs) ∧ K (.agg cs.toArray)
        | _ => ∃ v, (∀ w, C w → w.cell? a = some v) ∧ K v)
      | none => False)
    | _ => False)
  | op => (match isPure op with
    | true => xop P τ true op o.type E default fun v _ => K v
    | false => False)
noncomputable def xquiet (P : Program) (τ : TT) (n : Nat) (all : List Oper) (C : World → Prop) (Q : Env → Prop) : List Oper → Env → Prop
  | [], E => Q E
  | o :: r, E => xguard n all o E (fun E => xqop P τ C o E fun v => put n o.dst v E fun E => xquiet P τ n all C Q r E) (fun E => xquiet P τ n all C Q r E)
theorem xqop_out (hτ : TOk P τ) {C : World → Prop} {o : Oper} {E : Env} {K : Value → Prop} (h : xqop P τ C o E K) {a : Act} (hf : Fits n E a.tmps) : ∃ v, K v ∧ ∀ w, C w → o.quietAt P a C w v := by
  unfold xqop at h
  split at h
  · rename_i f args ts hop
    split at h
    · rename_i g fi ca hfv
      have h1 := evs_eval hf h
      obtain ⟨v, hc, hK⟩ := h1
      refine ⟨v, hK, fun w hw => ?_⟩
      have hmap : (args.map a.eval) = (args.toList.map a.eval).toArray := by rw [← Array.toList_map, Array.toArray_toList]
      have hcall := hc w hw
      obtain ⟨⟨fn, hfn, hname, hbody⟩, hcall⟩ := hcall
      have hargs : fi ++ args.map a.eval ++ ca = (argsOf fi.toList ca.toList (args.toList.map a.eval)).toArray := by unfold argsOf; rw [hmap]; apply Array.toList_inj.1; simp
      have hrun : (execOp a.eval o).run P w = .ok (.enter g (argsOf fi.toList ca.toList (args.toList.map a.eval)).toArray) w := by
        unfold execOp
        rw [hop]
        have h1 : (resolve a.eval { callee := .value f, args := args, argTypes := ts } o.type).run P w = .ok { target := .fn (.func g) ca, args := fi ++ args.map a.eval } w := by
          simp [resolve, Deferred.ofValue, hf.eval hfv]
        have hprog : (program).run P w = .ok P w := rfl
        simp only [Sem.run_bind, h1, Result.andThen_ok, invoke, hargs, callFunc, hprog, hfn, hname, hbody, Bool.false_eq_true, if_false, Sem.run_pure]
      unfold Oper.quietAt
      rw [hrun]
      refine ⟨rfl, hcall.mono ?_⟩
      rintro e w' (⟨u, rfl, rfl, hC⟩ | ⟨_, _, hF⟩)
      · exact ⟨rfl, hC⟩
      · exact hF.elim
    · exact h.elim
  · rename_i t x hop
    split at h
    · rename_i ad hx
      split at h
      · rename_i i hi
        have ht := hτ t i hi
        split at h
        · rename_i fs hfs
          obtain ⟨cs, hl, hc, hK⟩ := h
          refine ⟨_, hK, fun w hw => ?_⟩
          have := loadVar_agg (P := P) ht (by rw [hfs]; rfl) hl (hc w hw)
          unfold Oper.quietAt execOp
          rw [hop]
          simp [Instr.loadAt, Instr.sureAddr, hf.eval hx, this, Oper.quietUpon]
        · rename_i hn
          obtain ⟨v, hc, hK⟩ := h
          refine ⟨_, hK, fun w hw => ?_⟩
          have hag : i.td.agg = false := by cases htd : i.td <;> simp_all [TD.agg]
          have := loadVar_one (P := P) ht hag (hc w hw)
          unfold Oper.quietAt execOp
          rw [hop]
          simp [Instr.loadAt, Instr.sureAddr, hf.eval hx, this, Oper.quietUpon]
      · exact h.elim
    · exact h.elim
  · split at h
    · rename_i hp
      obtain ⟨v, hK, hr⟩ := pure_run hτ hp h hf
      refine ⟨v, hK, fun w hw => ?_⟩
      unfold Oper.quietAt
      rw [hr w]
      exact ⟨rfl, rfl⟩
    · exact h.elim
theorem xquiet_sound (hτ : TOk P τ) {all : Array Oper} {C : World → Prop} {Q : Env → Prop} : ∀ (r : List Oper) (E : Env), xquiet P τ n all.toList C Q r E → ∀ a : Act, Fits n E a.tmps → wpQuiet P all C (fun a' => a'.defers = a.defers ∧ ∃ E', Fits n E' a'.tmps ∧ Q E') r a
  | [], E, h, a, hf => wpQuiet_nil ⟨rfl, E, hf, h⟩
  | o :: r, E, h, a, hf => by
    simp only [xquiet] at h
    refine wpQuiet_step fun K hK => ?_
    rcases xguard_out h hf with ⟨hw, E1, hf1, h1⟩ | ⟨hw, E1, hf1, h1⟩
    · rw [if_pos hw]
      obtain ⟨v, h2, h3⟩ := xqop_out hτ h1 hf1
      obtain ⟨E2, h4, hf2⟩ := put_out h2 hf1
      have := xquiet_sound hτ r E2 h4 _ hf2
      rw [put_defers] at this
      exact ⟨v, h3, hK _ this⟩
    · rw [if_neg (by rw [hw]; decide)]
      have := xquiet_sound hτ r E1 h1 _ hf1
      rw [put_defers] at this
      exact hK _ this
/-- A region whose order is drawn, each operation of one value in every world of a class. -/
theorem draw_quiet (hτ : TOk P τ) (hm : P.follows .mixedOrders = true) (C : World → Prop) {id : Nat} {ops : Array Oper} {Q : XQ} {D : List Deferred} {E : Env} {w : World} (hB : Region.lexB .any ops = true) (hC : C w.drew)
    (h : xquiet P τ n ops.toList C (fun E => ∀ w', C w' → Q .normal D E w') ops.toList E) : DrawP P τ n id ops Q D E w := by
  refine ⟨⟨?_⟩⟩
  intro a hf hd
  refine wp_region_quiet hm hB hC ?_
  have h1 := xquiet_sound hτ ops.toList E h a hf
  have hmono : ∀ (l : List Oper) (a : Act) (Q1 Q2 : Act → Prop), (∀ a, Q1 a → Q2 a) → wpQuiet P ops C Q1 l a → wpQuiet P ops C Q2 l a := by
    intro l
    induction l with
    | nil => intro a Q1 Q2 hq h; exact hq _ h
    | cons o r ih =>
      intro a Q1 Q2 hq h
      simp only [wpQuiet] at h ⊢
      split
      · rename_i hw; rw [if_pos hw] at h; exact Oper.quiet_mono (fun a => ih a Q1 Q2 hq) h
      · rename_i hw; rw [if_neg hw] at h; exact ih _ Q1 Q2 hq h
  refine hmono _ _ _ _ ?_ h1
  rintro a' ⟨hd', E', hf', hQ⟩ w' hw'
  exact lift_mk hf' (by rw [hd', hd]; exact hQ w' hw')
theorem draw_read (hτ : TOk P τ) (hm : P.follows .mixedOrders = true) {id : Nat} {ops : Array Oper} {Q : XQ} {D : List Deferred} {E : Env} {w : World} (hB : Region.lexB .any ops = true)
    (h : xquiet P τ n ops.toList (fun w' => w' = w.drew) (fun E => ∀ w', w' = w.drew → Q .normal D E w') ops.toList E) : DrawP P τ n id ops Q D E w :=
  draw_quiet hτ hm (fun w' => w' = w.drew) hB rfl h

/-! ## A region whose order is drawn: what is pure is taken first, of the others every order -/
def firstPure (ops : Array Oper) (listed : Array Bool) : List Nat → Option (Nat × Oper)
  | [] => none
  | i :: r => match ops[i]? with
    | some o => match isPure o.op && Region.free .any ops listed i with
      | true => some (i, o)
      | false => firstPure ops listed r
    | none => firstPure ops listed r
def allR : List Nat → (Nat → Prop) → Prop
  | [], _ => True
  | i :: r, k => k i ∧ allR r k
noncomputable def xany (P : Program) (τ : TT) (n : Nat) (ops : Array Oper) (Q : XQ) : Nat → Array Bool → List Deferred → Env → World → Prop
  | 0, listed, D, E, w => Region.ready .any ops listed = [] ∧ Q .normal D E w
  | fuel + 1, listed, D, E, w => match Region.ready .any ops listed with
    | [] => Q .normal D E w
    | i0 :: r => match firstPure ops listed (i0 :: r) with
      | some (i, o) => xguard n ops.toList o E (fun E => xop P τ true o.op o.type E w fun v w' => put n o.dst v E fun E => xany P τ n ops Q fuel (listed.setIfInBounds i true) D E w) (fun E => xany P τ n ops Q fuel (listed.setIfInBounds i true) D E w)
      | none => allR (i0 :: r) fun i => match ops[i]? with
        | some o => xguard n ops.toList o E (fun E => xexec P τ n Q o D E w fun D E w => xany P τ n ops Q fuel (listed.setIfInBounds i true) D E w) (fun E => xany P τ n ops Q fuel (listed.setIfInBounds i true) D E w)
        | none => xany P τ n ops Q fuel (listed.setIfInBounds i true) D E w
theorem firstPure_out {ops : Array Oper} {listed : Array Bool} : ∀ (l : List Nat) {i : Nat} {o : Oper}, firstPure ops listed l = some (i, o) → i ∈ l ∧ ops[i]? = some o ∧ isPure o.op = true ∧ Region.free .any ops listed i = true
  | [], i, o, h => by simp [firstPure] at h
  | j :: r, i, o, h => by
    unfold firstPure at h
    split at h
    · rename_i o' ho
      split at h
      · rename_i hb
        simp only [Option.some.injEq, Prod.mk.injEq] at h
        obtain ⟨rfl, rfl⟩ := h
        rw [Bool.and_eq_true] at hb
        exact ⟨by simp, ho, hb.1, hb.2⟩
      · have := firstPure_out r h; exact ⟨by simp [this.1], this.2⟩
    · have := firstPure_out r h; exact ⟨by simp [this.1], this.2⟩
theorem allR_out : ∀ (l : List Nat) (k : Nat → Prop), allR l k → ∀ i ∈ l, k i
  | [], k, h, i, hi => by simp at hi
  | j :: r, k, h, i, hi => by
    rcases List.mem_cons.1 hi with rfl | hi
    · exact h.1
    · exact allR_out r k h.2 i hi
theorem xany_sound (hτ : TOk P τ) {ops : Array Oper} (hs : Region.noSelect ops = true) {Q : XQ} : ∀ (fuel : Nat) (listed : Array Bool) (D : List Deferred) (E : Env) (w : World), xany P τ n ops Q fuel listed D E w → ∀ a : Act, Fits n E a.tmps → a.defers = D → wpAny P .any ops (lift n Q) fuel listed a w
  | 0, listed, D, E, w, h, a, hf, hd => ⟨h.1, lift_mk hf (by rw [hd]; exact h.2)⟩
  | fuel + 1, listed, D, E, w, h, a, hf, hd => by
    simp only [xany] at h
    split at h
    · rename_i hr
      exact wpAny_done hr (lift_mk hf (by rw [hd]; exact h)) _
    · rename_i i0 r hr
      split at h
      · rename_i i o hfp
        obtain ⟨hmem, hi, hp, hfree⟩ := firstPure_out _ hfp
        have hQ : ∀ (v : Value) (c : List PanicEntry) (a : Act) (w : World), lift n Q (.panic c) (a.put o.dst v) w → lift n Q (.panic c) a w := by
          rintro v c a w ⟨E, _, hq⟩
          exact ⟨E, .inr trivial, by rw [put_defers] at hq; exact hq⟩
        rcases xguard_out h hf with ⟨hw, E1, hf1, h1⟩ | ⟨hw, E1, hf1, h1⟩
        · obtain ⟨v, hK, hrun⟩ := pure_run hτ hp h1 hf1
          obtain ⟨E2, hK2, hf2⟩ := put_out hK hf1
          exact wpAny_take hi hs hfree (by rw [hr]; exact List.contains_iff_mem.2 hmem) (hQ v) (.inl ⟨hw, hrun⟩) (xany_sound hτ hs fuel _ D E2 w hK2 _ hf2 (by rw [put_defers]; exact hd))
        · exact wpAny_take hi hs hfree (by rw [hr]; exact List.contains_iff_mem.2 hmem) (hQ undef) (.inr ⟨hw, rfl⟩) (xany_sound hτ hs fuel _ D E1 w h1 _ hf1 (by rw [put_defers]; exact hd))
      · refine wpAny_all hr (by simp) fun i hi => ?_
        have h1 := allR_out _ _ h i hi
        unfold wpOp
        split
        · rename_i ho
          simp only [ho] at h1
          exact xany_sound hτ hs fuel _ D E w h1 a hf hd
        · rename_i o ho
          simp only [ho] at h1
          rcases xguard_out h1 hf with ⟨hw, E1, hf1, h1⟩ | ⟨hw, E1, hf1, h1⟩
          · rw [if_pos hw]
            exact .inl (xexec_sound hτ h1 hf1 hd fun D' E' w' a' hx hf' hd' => xany_sound hτ hs fuel _ D' E' w' hx a' hf' hd')
          · rw [if_neg (by rw [hw]; decide)]
            exact xany_sound hτ hs fuel _ D E1 w h1 _ hf1 (by rw [put_defers]; exact hd)
theorem draw_any (hτ : TOk P τ) (hm : P.follows .mixedOrders = true) {id : Nat} {ops : Array Oper} {Q : XQ} {D : List Deferred} {E : Env} {w : World} (hs : Region.noSelect ops = true)
    (h : xany P τ n ops Q ops.size (Array.replicate ops.size false) D E w.drew) : DrawP P τ n id ops Q D E w := by
  refine ⟨⟨?_⟩⟩
  intro a hf hd
  exact wp_region_any hm (xany_sound hτ hs _ _ D E _ h a hf hd)
end Go.Proofs.YtfeegacmmfgjfaaGreatDoorX

/-!  The framework, part M: what memory holds; slices that are read, slices of one's own. -/
set_option linter.unusedVariables false
set_option linter.unusedSimpArgs false
namespace Go.Proofs.YtfeegacmmfgjfaaGreatDoorX
open Go Go.RowKit
variable {P : Program} {τ : TT} {n : Nat}

/-! ## How a world may have changed -/
/-- Of the blocks that stood, only those in M have changed. -/
structure Chg (M : Nat → Prop) (w w' : World) : Prop where
  os : w'.os = w.os
  tape : w'.tape = w.tape
  output : w'.output = w.output
  size : w.heap.size ≤ w'.heap.size
  block : ∀ b, b < w.heap.size → ¬ M b → w'.heap[b]? = w.heap[b]?
abbrev No : Nat → Prop := fun _ => False
abbrev Old (w : World) : Nat → Prop := fun b => b < w.heap.size
abbrev New (w : World) : Nat → Prop := fun b => w.heap.size ≤ b
/-- Nothing that stood has changed. -/
abbrev Ext (w w' : World) : Prop := Chg No w w'
theorem Chg.refl (M : Nat → Prop) (w : World) : Chg M w w := ⟨rfl, rfl, rfl, Nat.le_refl _, fun _ _ _ => rfl⟩
theorem Chg.trans {M : Nat → Prop} {a b c : World} (h : Chg M a b) (k : Chg M b c) : Chg M a c :=
  ⟨k.os.trans h.os, k.tape.trans h.tape, k.output.trans h.output, Nat.le_trans h.size k.size, fun i hi hm => (k.block i (Nat.lt_of_lt_of_le hi h.size) hm).trans (h.block i hi hm)⟩
theorem Chg.mono {M M' : Nat → Prop} {a b : World} (h : Chg M a b) (hm : ∀ i, i < a.heap.size → M i → M' i) : Chg M' a b := ⟨h.os, h.tape, h.output, h.size, fun i hi hn => h.block i hi fun hq => hn (hm i hi hq)⟩
/-- What is new since a may change. -/
theorem Chg.then {M M' : Nat → Prop} {a b c : World} (h : Chg M a b) (k : Chg M' b c) (hm : ∀ i, i < a.heap.size → M' i → M i) : Chg M a c :=
  ⟨k.os.trans h.os, k.tape.trans h.tape, k.output.trans h.output, Nat.le_trans h.size k.size, fun i hi hn => (k.block i (Nat.lt_of_lt_of_le hi h.size) (fun hq => hn (hm i hi hq))).trans (h.block i hi hn)⟩
theorem Chg.ext {M : Nat → Prop} {a b c : World} (h : Chg M a b) (k : Ext b c) : Chg M a c := h.then k (fun _ _ h => h.elim)
theorem heap_alloc_lt (w : World) (o : Obj) (k : Nat) (h : k < w.heap.size) : (w.alloc o).heap[k]? = w.heap[k]? := Below.heap_alloc w o k h
theorem NewB.chg {w w' : World} {o : Obj} {b : Nat} (h : NewB w o b w') (M : Nat → Prop) : Chg M w w' := by
  obtain ⟨rfl, rfl⟩ := h
  exact ⟨rfl, rfl, rfl, by simp, fun k hk _ => heap_alloc_lt w o k hk⟩
theorem NewB.blk {w w' : World} {o : Obj} {b : Nat} (h : NewB w o b w') : w'.heap[b]? = some o := by
  obtain ⟨rfl, rfl⟩ := h
  exact heap_alloc_new w o
theorem NewB.size {w w' : World} {o : Obj} {b : Nat} (h : NewB w o b w') : w'.heap.size = w.heap.size + 1 := by
  obtain ⟨rfl, rfl⟩ := h; simp
theorem SetB.chg {w w' : World} {a : Addr} {v : Value} (h : SetB w a v w') (M : Nat → Prop) (hM : M a.block) : Chg M w w' := by
  obtain ⟨rfl⟩ := h
  exact ⟨rfl, rfl, rfl, by simp [World.setCell], fun k hk hm => Below.heap_setCell w a v k (fun e => hm (e ▸ hM))⟩
theorem Chg.drew (M : Nat → Prop) (w : World) : Chg M w w.drew := ⟨rfl, rfl, rfl, Nat.le_refl _, fun _ _ _ => rfl⟩
theorem Chg.of_grown {w w' : World} {row : Option Nat} (h : w.grownBy w' row) : Chg (fun b => row = some b) w w' := ⟨h.os, h.tape, h.output, h.size, fun k hk hm => h.block k hk fun e => hm e.symm⟩
theorem Chg.below {M : Nat → Prop} {w w' : World} (h : Chg M w w') {B : Nat} (hB : B ≤ w.heap.size) (hM : ∀ b, M b → B ≤ b) : Below B w w' := ⟨h.os, h.tape, h.output, h.size, fun k hk => h.block k (by omega) fun hm => by have := hM k hm; omega⟩
theorem Chg.cell {M : Nat → Prop} {w w' : World} (h : Chg M w w') {a : Addr} {v : Value} (hc : w.cell? a = some v) (hm : ¬ M a.block) : w'.cell? a = some v := by
  rw [World.cell?_of_block (w := w) (h.block a.block (World.block_lt_of_cell? w a hc) hm)]; exact hc
theorem Chg.blk {M : Nat → Prop} {w w' : World} (h : Chg M w w') {b : Nat} {o : Obj} (hb : w.heap[b]? = some o) (hm : ¬ M b) : w'.heap[b]? = some o := by
  rw [h.block b (Array.getElem?_eq_some_iff.1 hb).1 hm]; exact hb
theorem Ext.of_below {w w' : World} (h : Below w.heap.size w w') : Ext w w' := ⟨h.os, h.tape, h.output, h.size, fun k hk _ => h.block k hk⟩
theorem Ext.below {w w' : World} (h : Ext w w') : Below w.heap.size w w' := Chg.below h (Nat.le_refl _) (fun _ h => h.elim)

/-! ## A block of one's own, told whole -/
theorem cell_of_blk {w : World} {b : Nat} {cs : Array Value} {t : TypeId} {fr : Nat × Nat} (h : w.heap[b]? = some (.cells cs t fr)) (j : Nat) : w.cell? ⟨b, j, none⟩ = cs[j]? := by simp [World.cell?, h]
theorem frozen_of_blk {w : World} {b : Nat} {cs : Array Value} {t : TypeId} (h : w.heap[b]? = some (.cells cs t (0, 0))) (j : Nat) : w.frozen? ⟨b, j, none⟩ = false := by simp [World.frozen?, h]
theorem set_blk {w : World} {b : Nat} {cs : Array Value} {t : TypeId} {fr : Nat × Nat} (h : w.heap[b]? = some (.cells cs t fr)) (j : Nat) (v : Value) : (w.setCell ⟨b, j, none⟩ v).heap[b]? = some (.cells (cs.setIfInBounds j v) t fr) := by simp [World.setCell, Array.getElem?_modify, h]
theorem addr_add (b o j : Nat) : (⟨b, o, none⟩ : Addr).add j = ⟨b, o + j, none⟩ := by unfold Addr.add; split <;> simp_all
theorem add_add (a : Addr) (i j : Nat) : (a.add i).add j = a.add (i + j) := by
  unfold Addr.add
  by_cases h1 : i = 0 <;> by_cases h2 : j = 0 <;> simp [h1, h2, Nat.add_assoc]
theorem add_block (a : Addr) (i : Nat) : (a.add i).block = a.block := by unfold Addr.add; split <;> rfl
theorem cellsAt_nil (w : World) (a : Addr) : CellsAt w a [] := ⟨by intro j u h; simp at h⟩
theorem cellsAt_get {w : World} {a : Addr} {cs : List Value} (h : CellsAt w a cs) (j : Nat) {u : Value} (hj : cs[j]? = some u) : w.cell? (a.add j) = some u := h.out j u hj
theorem cellsAt_zero {w : World} {a : Addr} {cs : List Value} (h : CellsAt w a cs) {u : Value} (hj : cs[0]? = some u) : w.cell? a = some u := by have := cellsAt_get h 0 hj; simpa [Addr.add] using this
theorem cellsAt_one {w : World} {a : Addr} {u : Value} (h : w.cell? a = some u) : CellsAt w a [u] := by
  refine ⟨?_⟩
  intro j v hj
  cases j with
  | zero => simp at hj; subst hj; simpa [Addr.add] using h
  | succ j => simp at hj
theorem cellsAt_blk {w : World} {b : Nat} {cs : List Value} {t : TypeId} {fr : Nat × Nat} (h : w.heap[b]? = some (.cells cs.toArray t fr)) : CellsAt w ⟨b, 0, none⟩ cs := by
  refine ⟨?_⟩
  intro j u hj
  rw [addr_add, Nat.zero_add, cell_of_blk h]
  simpa using hj
theorem cellsAt_chg {M : Nat → Prop} {w w' : World} (h : Chg M w w') {a : Addr} {cs : List Value} (hc : CellsAt w a cs) (hm : ¬ M a.block) : CellsAt w' a cs := by
  have hc := hc.out
  refine ⟨?_⟩
  intro j u hj
  exact h.cell (hc j u hj) (by rw [add_block]; exact hm)

/-! ## Kinds of values -/
structure Kd (α : Type) where
  nc : Nat
  rep : (Nat → Prop) → World → α → List Value → Prop
  pos : 0 < nc
  len : ∀ {S w x cs}, rep S w x cs → cs.length = nc
  one : ∀ {S w x cs}, rep S w x cs → ∀ u ∈ cs, u.oneCell' = true
  up : ∀ {S w w' x cs}, rep S w x cs → (∀ b, S b → b < w.heap.size → w'.heap[b]? = w.heap[b]?) → rep S w' x cs
  mono : ∀ {S S' w x cs}, rep S w x cs → (∀ b, S b → b < w.heap.size → S' b) → rep S' w x cs
theorem Kd.chg {α : Type} (k : Kd α) {S M : Nat → Prop} {w w' : World} {x : α} {cs : List Value} (h : k.rep S w x cs) (hc : Chg M w w') (hd : ∀ b, S b → ¬ M b) : k.rep S w' x cs := k.up h fun b hb hlt => hc.block b hlt (hd b hb)
theorem Kd.old {α : Type} (k : Kd α) {S : Nat → Prop} {w : World} {x : α} {cs : List Value} (h : k.rep S w x cs) : k.rep (Old w) w x cs := k.mono h fun b _ hlt => hlt
abbrev str (l : List UInt8) : ByteArray := ⟨l.toArray⟩
theorem str_toList (s : ByteArray) : str s.data.toList = s := by cases s; simp
def kInt (ik : IntKind) : Kd Int where
  nc := 1
  rep := fun _ _ x cs => cs = [.int ik x]
  pos := by decide
  len := by rintro S w x cs rfl; rfl
  one := by rintro S w x cs rfl u hu; simp at hu; subst hu; rfl
  up := fun h _ => h
  mono := fun h _ => h
def kBool : Kd Bool where
  nc := 1
  rep := fun _ _ x cs => cs = [.bool x]
  pos := by decide
  len := by rintro S w x cs rfl; rfl
  one := by rintro S w x cs rfl u hu; simp at hu; subst hu; rfl
  up := fun h _ => h
  mono := fun h _ => h
def kStr : Kd (List UInt8) where
  nc := 1
  rep := fun _ _ x cs => cs = [.string (str x)]
  pos := by decide
  len := by rintro S w x cs rfl; rfl
  one := by rintro S w x cs rfl u hu; simp at hu; subst hu; rfl
  up := fun h _ => h
  mono := fun h _ => h
def kPair {α β : Type} (k : Kd α) (l : Kd β) : Kd (α × β) where
  nc := k.nc + l.nc
  rep := fun S w x cs => ∃ a b, cs = a ++ b ∧ k.rep S w x.1 a ∧ l.rep S w x.2 b
  pos := by have := k.pos; omega
  len := by rintro S w x cs ⟨a, b, rfl, h1, h2⟩; simp [k.len h1, l.len h2]
  one := by
    rintro S w x cs ⟨a, b, rfl, h1, h2⟩ u hu
    rcases List.mem_append.1 hu with hu | hu
    · exact k.one h1 u hu
    · exact l.one h2 u hu
  up := by rintro S w w' x cs ⟨a, b, rfl, h1, h2⟩ h; exact ⟨a, b, rfl, k.up h1 h, l.up h2 h⟩
  mono := by rintro S w w' x cs ⟨a, b, rfl, h1, h2⟩ h; exact ⟨a, b, rfl, k.mono h1 h, l.mono h2 h⟩
/-- A slice that is read. -/
def SlR {α : Type} (k : Kd α) (S : Nat → Prop) (w : World) (v : Value) (xs : List α) : Prop :=
  ∃ A c, v = .slice A xs.length c ∧ xs.length ≤ c ∧ c ≤ 9223372036854775807 ∧ ∀ j x, xs[j]? = some x → ∃ ad cs, A = some ad ∧ S ad.block ∧ k.rep S w x cs ∧ CellsAt w (ad.add (j * k.nc)) cs
theorem cellsAt_lt {w : World} {a : Addr} {cs : List Value} (h : CellsAt w a cs) (hp : 0 < cs.length) : a.block < w.heap.size := by
  obtain ⟨u, hu⟩ : ∃ u, cs[0]? = some u := ⟨_, List.getElem?_eq_getElem hp⟩
  exact World.block_lt_of_cell? w a (cellsAt_zero h hu)
theorem SlR.up {α : Type} {k : Kd α} {S : Nat → Prop} {w w' : World} {v : Value} {xs : List α} (h : SlR k S w v xs) (hu : ∀ b, S b → b < w.heap.size → w'.heap[b]? = w.heap[b]?) : SlR k S w' v xs := by
  obtain ⟨A, c, rfl, h1, h2, h3⟩ := h
  refine ⟨A, c, rfl, h1, h2, fun j x hj => ?_⟩
  obtain ⟨ad, cs, rfl, hS, hr, hc⟩ := h3 j x hj
  refine ⟨ad, cs, rfl, hS, k.up hr hu, ?_⟩
  have hc := hc.out
  refine ⟨?_⟩
  intro i u hi
  have hb : ((ad.add (j * k.nc)).add i).block = ad.block := by rw [add_block, add_block]
  have hc1 := hc i u hi
  have hlt := World.block_lt_of_cell? w _ hc1
  rw [World.cell?_of_block (w := w) (hu _ (by rw [hb]; exact hS) hlt)]
  exact hc1
theorem SlR.mono {α : Type} {k : Kd α} {S S' : Nat → Prop} {w : World} {v : Value} {xs : List α} (h : SlR k S w v xs) (hm : ∀ b, S b → b < w.heap.size → S' b) : SlR k S' w v xs := by
  obtain ⟨A, c, rfl, h1, h2, h3⟩ := h
  refine ⟨A, c, rfl, h1, h2, fun j x hj => ?_⟩
  obtain ⟨ad, cs, rfl, hS, hr, hc⟩ := h3 j x hj
  refine ⟨ad, cs, rfl, hm _ hS ?_, k.mono hr hm, hc⟩
  have := cellsAt_lt hc (by rw [k.len hr]; exact k.pos)
  rwa [add_block] at this
theorem SlR.old {α : Type} {k : Kd α} {S : Nat → Prop} {w : World} {v : Value} {xs : List α} (h : SlR k S w v xs) : SlR k (Old w) w v xs := h.mono fun _ _ h => h
theorem SlR.chg {α : Type} {k : Kd α} {S M : Nat → Prop} {w w' : World} {v : Value} {xs : List α} (h : SlR k S w v xs) (hc : Chg M w w') (hd : ∀ b, S b → ¬ M b) : SlR k S w' v xs := h.up fun b hb hlt => hc.block b hlt (hd b hb)
theorem SlR.ext {α : Type} {k : Kd α} {S : Nat → Prop} {w w' : World} {v : Value} {xs : List α} (h : SlR k S w v xs) (hc : Ext w w') : SlR k S w' v xs := h.chg hc fun _ _ h => h
theorem SlR.nil {α : Type} (k : Kd α) (S : Nat → Prop) (w : World) : SlR k S w (.slice none 0 0) [] := ⟨none, 0, rfl, by simp, by simp, fun j x h => by simp at h⟩
theorem SlR.get {α : Type} {k : Kd α} {S : Nat → Prop} {w : World} {A : Option Addr} {m c : Nat} {xs : List α} (h : SlR k S w (.slice A m c) xs) {j : Nat} {x : α} (hj : xs[j]? = some x) : ∃ ad cs, A = some ad ∧ S ad.block ∧ k.rep S w x cs ∧ CellsAt w (ad.add (j * k.nc)) cs := by
  obtain ⟨A', c', he, _, _, h3⟩ := h
  cases he
  exact h3 j x hj
theorem SlR.shape {α : Type} {k : Kd α} {S : Nat → Prop} {w : World} {v : Value} {xs : List α} (h : SlR k S w v xs) : ∃ A c, v = .slice A xs.length c ∧ xs.length ≤ c ∧ c ≤ 9223372036854775807 := by
  obtain ⟨A, c, rfl, h1, h2, _⟩ := h; exact ⟨A, c, rfl, h1, h2⟩
theorem SlR.len {α : Type} {k : Kd α} {S : Nat → Prop} {w : World} {A : Option Addr} {m c : Nat} {xs : List α} (h : SlR k S w (.slice A m c) xs) : m = xs.length ∧ xs.length ≤ c ∧ c ≤ 9223372036854775807 := by
  obtain ⟨A', c', he, h1, h2, _⟩ := h; cases he; exact ⟨rfl, h1, h2⟩
def kSl {α : Type} (k : Kd α) : Kd (List α) where
  nc := 1
  rep := fun S w xs cs => ∃ v, cs = [v] ∧ SlR k S w v xs
  pos := by decide
  len := by rintro S w x cs ⟨v, rfl, _⟩; rfl
  one := by rintro S w x cs ⟨v, rfl, A, c, rfl, _⟩ u hu; simp at hu; subst hu; rfl
  up := by rintro S w w' x cs ⟨v, rfl, h⟩ hu; exact ⟨v, rfl, h.up hu⟩
  mono := by rintro S S' w x cs ⟨v, rfl, h⟩ hu; exact ⟨v, rfl, h.mono hu⟩
/-- A slice of one's own: it may be appended to, and written. -/
def Own {α : Type} (k : Kd α) (e : TypeId) (S : Nat → Prop) (w : World) (v : Value) (xs : List α) : Prop :=
  ∃ css : List (List Value), css.length = xs.length ∧ w.ownsRow 0 e k.nc v xs.length css.flatten ∧
    (∀ (j : Nat) (x : α) (cs : List Value), xs[j]? = some x → css[j]? = some cs → k.rep (fun b => S b ∧ v.ownBlock ≠ some b) w x cs) ∧ ∀ b, v.ownBlock = some b → S b

theorem flat_get {css : List (List Value)} {c : Nat} (hc : ∀ cs ∈ css, cs.length = c) (hp : 0 < c) {j : Nat} {cs : List Value} (hj : css[j]? = some cs) {i : Nat} {u : Value} (hi : cs[i]? = some u) : css.flatten[j * c + i]? = some u := by
  induction css generalizing j with
  | nil => simp at hj
  | cons d r ih =>
    have hd : d.length = c := hc d (by simp)
    cases j with
    | zero =>
      simp at hj; subst hj
      rw [List.flatten_cons, Nat.zero_mul, Nat.zero_add, List.getElem?_append_left (by have := (List.getElem?_eq_some_iff.1 hi).1; omega)]
      exact hi
    | succ j =>
      have := ih (fun cs h => hc cs (by simp [h])) (by simpa using hj)
      rw [List.flatten_cons, List.getElem?_append_right (by rw [hd, Nat.succ_mul]; omega), hd, show (j + 1) * c + i - c = j * c + i by rw [Nat.succ_mul]; omega]
      exact this
theorem Own.row {α : Type} {k : Kd α} {e : TypeId} {S : Nat → Prop} {w : World} {v : Value} {xs : List α} (h : Own k e S w v xs) : ∃ cells, w.ownsRow 0 e k.nc v xs.length cells := by
  obtain ⟨css, _, h2, _⟩ := h; exact ⟨_, h2⟩
theorem Own.read {α : Type} {k : Kd α} {e : TypeId} {S : Nat → Prop} {w : World} {v : Value} {xs : List α} (h : Own k e S w v xs) : SlR k S w v xs := by
  obtain ⟨css, hl, ho, hr, hS⟩ := h
  have hcl : ∀ cs ∈ css, cs.length = k.nc := by
    intro cs hcs
    obtain ⟨j, hj, rfl⟩ := List.getElem_of_mem hcs
    have hx : j < xs.length := by omega
    exact k.len (hr j xs[j] css[j] (List.getElem?_eq_getElem hx) (List.getElem?_eq_getElem hj))
  rcases ho.2 with ⟨rfl, h0⟩ | ⟨g, cap, cur, rfl, _, hh, hnc, hcm, hsz, htk⟩
  · obtain rfl := List.eq_nil_of_length_eq_zero h0
    exact SlR.nil k S w
  · refine ⟨_, cap, rfl, hnc, by simp only [maxLen] at hcm; exact hcm, fun j x hj => ?_⟩
    have hjl : j < css.length := by have := (List.getElem?_eq_some_iff.1 hj).1; omega
    refine ⟨⟨g, 0, none⟩, css[j], rfl, hS g rfl, k.mono (hr j x css[j] hj (List.getElem?_eq_getElem hjl)) (fun b hb _ => hb.1), ?_⟩
    refine ⟨?_⟩
    intro i u hi
    rw [add_add]
    exact ho.cells (g := g) rfl _ u (flat_get hcl k.pos (List.getElem?_eq_getElem hjl) hi)
theorem Own.nil {α : Type} (k : Kd α) (e : TypeId) (S : Nat → Prop) (w : World) : Own k e S w (.slice none 0 0) [] :=
  ⟨[], rfl, World.ownsRow_nil w 0 e k.nc, fun j x cs h => by simp at h, fun b h => by simp [Value.ownBlock] at h⟩
theorem Own.lt {α : Type} {k : Kd α} {e : TypeId} {S : Nat → Prop} {w : World} {v : Value} {xs : List α} (h : Own k e S w v xs) {b : Nat} (hb : v.ownBlock = some b) : b < w.heap.size := by
  obtain ⟨css, _, ho, _⟩ := h; exact (ho.lt b hb).2
theorem Own.mono {α : Type} {k : Kd α} {e : TypeId} {S S' : Nat → Prop} {w : World} {v : Value} {xs : List α} (h : Own k e S w v xs) (hm : ∀ b, S b → b < w.heap.size → S' b) : Own k e S' w v xs := by
  have hlt := fun b => h.lt (b := b)
  obtain ⟨css, hl, ho, hr, hS⟩ := h
  exact ⟨css, hl, ho, fun j x cs hj hc => k.mono (hr j x cs hj hc) fun b hb hlt => ⟨hm b hb.1 hlt, hb.2⟩, fun b hb => hm b (hS b hb) (hlt b hb)⟩
theorem Own.chg {α : Type} {k : Kd α} {e : TypeId} {S M : Nat → Prop} {w w' : World} {v : Value} {xs : List α} (h : Own k e S w v xs) (hc : Chg M w w') (hd : ∀ b, S b → b < w.heap.size → ¬ M b) : Own k e S w' v xs := by
  have hlt := fun b => h.lt (b := b)
  obtain ⟨css, hl, ho, hr, hS⟩ := h
  refine ⟨css, hl, ?_, fun j x cs hj hcs => k.up (hr j x cs hj hcs) fun b hb hlt => hc.block b hlt (hd b hb.1 hlt), hS⟩
  refine ⟨ho.1, ?_⟩
  rcases ho.2 with h2 | ⟨g, cap, cur, rfl, hg, hh, r⟩
  · exact .inl h2
  · exact .inr ⟨g, cap, cur, rfl, hg, hc.blk hh (hd g (hS g rfl) (hlt g rfl)), r⟩
theorem Own.ext {α : Type} {k : Kd α} {e : TypeId} {S : Nat → Prop} {w w' : World} {v : Value} {xs : List α} (h : Own k e S w v xs) (hc : Ext w w') : Own k e S w' v xs := h.chg hc fun _ _ _ h => h
theorem Own.shape {α : Type} {k : Kd α} {e : TypeId} {S : Nat → Prop} {w : World} {v : Value} {xs : List α} (h : Own k e S w v xs) : ∃ A c, v = .slice A xs.length c ∧ xs.length ≤ c ∧ c ≤ 9223372036854775807 := h.read.shape
/-- A new block that holds elements: a slice of one's own. -/
theorem Own.lit {α : Type} (k : Kd α) (e : TypeId) {S : Nat → Prop} {w w' : World} {b : Nat} {xs : List α} (css : List (List Value)) (hl : css.length = xs.length) (hw : NewB w (.cells css.flatten.toArray e) b w')
    (hr : ∀ (j : Nat) (x : α) (cs : List Value), xs[j]? = some x → css[j]? = some cs → k.rep S w x cs) (hm : xs.length ≤ 9223372036854775807) : Own k e (fun i => (S i ∧ i < w.heap.size) ∨ i = b) w' (.slice (some ⟨b, 0, none⟩) xs.length xs.length) xs := by
  have hb := hw.hb
  have hcl : ∀ cs ∈ css, cs.length = k.nc := by
    intro cs hcs
    obtain ⟨j, hj, rfl⟩ := List.getElem_of_mem hcs
    have hx : j < xs.length := by omega
    exact k.len (hr j xs[j] css[j] (List.getElem?_eq_getElem hx) (List.getElem?_eq_getElem hj))
  have hfl : css.flatten.length = xs.length * k.nc := by
    rw [← hl]
    clear hw hr hl
    induction css with
    | nil => simp
    | cons d r ih => simp [hcl d (by simp), ih (fun cs h => hcl cs (by simp [h])), Nat.add_mul]; omega
  refine ⟨css, hl, ⟨hfl, .inr ⟨b, xs.length, css.flatten.toArray, rfl, Nat.zero_le _, hw.blk, Nat.le_refl _, by simpa [maxLen] using hm, by simpa using hfl, by rw [← hfl]; exact List.take_length⟩⟩, ?_, fun i hi => by simp [Value.ownBlock] at hi; exact .inr hi.symm⟩
  intro j x cs hj hc
  exact k.chg (k.mono (hr j x cs hj hc) fun i hi hlt => ⟨.inl ⟨hi, hlt⟩, fun he => by simp [Value.ownBlock] at he; omega⟩) (hw.chg No) (fun _ _ h => h)

theorem nextP {k : Nat} : True := trivial
/-- append of what is read to a slice of one's own. -/
theorem run_app (hτ : TOk P τ) {t e ty : TypeId} {s1 b1 : Nat} {z1 : Value} {td : TD} {bytes : Nat} {z : Value} {α : Type} {k : Kd α} (ht : tlook τ t = some ⟨.slice e, s1, b1, z1⟩) (he : tlook τ e = some ⟨td, k.nc, bytes, z⟩) (hz : (cellsOf z).length = k.nc)
    {S S' : Nat → Prop} {w : World} {v u : Value} {xs ys : List α} (ho : Own k e S w v xs) (hy : SlR k S' w u ys) (hd : ∀ b, v.ownBlock = some b → ¬ S' b) (hb : (xs.length + ys.length) * bytes ≤ 140737488355328) (hb2 : xs.length + ys.length ≤ 140737488355328) :
    ∃ v' w', (Builtin.append_ #[t, t] ty #[v, u]).run P w = .ok v' w' ∧ Own k e (fun b => (S b ∨ S' b) ∧ b < w.heap.size ∨ w.heap.size ≤ b) w' v' (xs ++ ys) ∧ Chg (fun b => v.ownBlock = some b) w w' ∧ ∀ b, v'.ownBlock = some b → v.ownBlock = some b ∨ b = w.heap.size := by
  have hlt := fun b => ho.lt (b := b)
  obtain ⟨A, c, rfl, hc1, hc2, hel⟩ := hy
  have hu : P.underlying t = some (.slice e) := (hτ _ _ ht).kind
  obtain ⟨i, hi, hiz, his, hib⟩ := (hτ _ _ he).info
  have hzs : z.cells.size = k.nc := by rw [← toArray_cells]; simpa using hz
  obtain ⟨css, hl, hrow, hr, hS⟩ := ho
  rcases Nat.eq_zero_or_pos ys.length with h0 | h0
  · obtain rfl := List.eq_nil_of_length_eq_zero h0
    have hrun : ∃ w', (Builtin.append_ #[t, t] ty #[v, .slice A ([] : List α).length c]).run P w = .ok v w' ∧ w' = w := by
      rcases hrow.2 with ⟨rfl, hn⟩ | ⟨g, cap, cur, rfl, _, hh, hnc, hcm, hsz, htk⟩
      · cases A <;> simp [Builtin.append_, run_underlying hu, sizeOf, typeInfo, hi, Builtin.lenOf, Builtin.firstCells, loadCells, loadCellsFrom]
      · cases A <;> simp [Builtin.append_, run_underlying hu, sizeOf, typeInfo, hi, Builtin.lenOf, Builtin.firstCells, loadCells, loadCellsFrom, hnc, storeCells]
    obtain ⟨w', hrun, rfl⟩ := hrun
    refine ⟨v, w', hrun, ?_, Chg.refl _ _, fun b hb => .inl hb⟩
    rw [List.append_nil]
    exact Own.mono ⟨css, hl, hrow, hr, hS⟩ fun b hb hlt => .inl ⟨.inl hb, hlt⟩
  · obtain ⟨x0, hx0⟩ : ∃ x, ys[0]? = some x := ⟨_, List.getElem?_eq_getElem h0⟩
    obtain ⟨ad, _, rfl, hS0, _, _⟩ := hel 0 x0 hx0
    have hcs : ∀ (l : List α) (m : Nat), (∀ (j : Nat) (x : α), l[j]? = some x → ∃ cs, k.rep S' w x cs ∧ CellsAt w (ad.add ((m + j) * k.nc)) cs) → ∃ ds : List (List Value), ds.length = l.length ∧
        (∀ (j : Nat) (x : α) (cs : List Value), l[j]? = some x → ds[j]? = some cs → k.rep S' w x cs) ∧ (∀ j u, ds.flatten[j]? = some u → w.cell? (ad.add (m * k.nc + j)) = some u) ∧ ds.flatten.length = l.length * k.nc ∧ ∀ u ∈ ds.flatten, u.oneCell' = true := by
      intro l
      induction l with
      | nil => intro m _; exact ⟨[], rfl, fun j x cs h => by simp at h, fun j u h => by simp at h, by simp, fun u h => by simp at h⟩
      | cons x r ih =>
        intro m h
        obtain ⟨ds, h1, h2, h3, h4, h5⟩ := ih (m + 1) (fun j y hj => by have := h (j + 1) y (by simpa using hj); rwa [show m + 1 + j = m + (j + 1) by omega])
        obtain ⟨cs, hc, hca⟩ := h 0 x (by simp)
        refine ⟨cs :: ds, by simp [h1], ?_, ?_, ?_, ?_⟩
        · intro j y ds' hj hd
          cases j with
          | zero => simp at hj hd; subst hj; subst hd; exact hc
          | succ j => exact h2 j y ds' (by simpa using hj) (by simpa using hd)
        · intro j u hj
          rw [List.flatten_cons] at hj
          have hlen := k.len hc
          by_cases hjl : j < cs.length
          · rw [List.getElem?_append_left hjl] at hj
            have := cellsAt_get hca j hj
            rw [add_add] at this
            simpa using this
          · rw [List.getElem?_append_right (by omega)] at hj
            have := h3 _ u hj
            rw [hlen] at this
            rw [show m * k.nc + j = (m + 1) * k.nc + (j - k.nc) by rw [Nat.succ_mul]; omega]
            exact this
        · rw [List.flatten_cons, List.length_append, h4, k.len hc, List.length_cons, Nat.succ_mul]; omega
        · intro u hu
          rw [List.flatten_cons] at hu
          rcases List.mem_append.1 hu with hu | hu
          · exact k.one hc u hu
          · exact h5 u hu
    obtain ⟨ds, d1, d2, d3, d4, d5⟩ := hcs ys 0 (fun j x hj => by
      obtain ⟨ad', cs, he, _, hk, hca⟩ := hel j x hj
      cases he
      exact ⟨cs, hk, by rw [Nat.zero_add]; exact hca⟩)
    obtain ⟨v', w', hrun, hown, hg, _, hat⟩ := run_append_own_at (P := P) w 0 t ty e i z k.nc bytes hu hi hiz his hib hzs k.pos v xs.length css.flatten hrow ad ys.length c ds.flatten d4 (by simpa using d3) d5 (by simp only [maxLen]; omega) hb (Nat.zero_le _)
    have hch : Chg (fun b => v.ownBlock = some b) w w' := Chg.of_grown hg
    have hnew : ∀ b, v'.ownBlock = some b → v.ownBlock = some b ∨ b = w.heap.size := by
      intro b hb
      rcases hat with h | h
      · exact .inl (h ▸ hb)
      · rw [h] at hb; cases hb; exact .inr rfl
    refine ⟨v', w', hrun, ⟨css ++ ds, by simp [hl, d1], by rw [List.flatten_append, List.length_append]; exact hown, ?_, ?_⟩, hch, hnew⟩
    · intro j x cs hj hc
      by_cases hjl : j < xs.length
      · rw [List.getElem?_append_left hjl] at hj
        rw [List.getElem?_append_left (by omega)] at hc
        have g1 := k.mono (S' := fun b => (S b ∧ v.ownBlock ≠ some b) ∧ b < w.heap.size) (hr j x cs hj hc) fun b hb hlt2 => ⟨hb, hlt2⟩
        refine k.mono (k.chg g1 hch fun b hb hm => hb.1.2 hm) fun b hb _ => ⟨.inl ⟨.inl hb.1.1, hb.2⟩, fun he => ?_⟩
        rcases hnew b he with h | h
        · exact hb.1.2 h
        · omega
      · rw [List.getElem?_append_right (by omega)] at hj
        rw [List.getElem?_append_right (by omega)] at hc
        have g1 := k.mono (S' := fun b => S' b ∧ b < w.heap.size) (d2 _ x cs hj (by rw [← hl]; exact hc)) fun b hb hlt2 => ⟨hb, hlt2⟩
        refine k.mono (k.chg g1 hch fun b hb hm => hd b hm hb.1) fun b hb _ => ⟨.inl ⟨.inr hb.1, hb.2⟩, fun he => ?_⟩
        rcases hnew b he with h | h
        · exact hd b h hb.1
        · omega
    · intro b hb
      rcases hnew b hb with h | h
      · exact .inl ⟨.inl (hS b h), hlt b h⟩
      · exact .inr (by omega)

theorem SemOp.of {op : Op} {ty : TypeId} {E : Env} {w : World} {K : Value → World → Prop}
    (h : ∀ (ρ : Operand → Value) (o : Oper), (∀ x v, ev E x = some v → ρ x = v) → o.op = op → o.type = ty → ∃ v w', (execOp ρ o).run P w = .ok (.value v) w' ∧ K v w') : SemOp P op ty E w K := by
  exact ⟨fun ρ o hρ ho ht => .inl (h ρ o hρ ho ht)⟩
theorem fall_in {A : Prop} (h : A) : fall false A := h
theorem sem_alloc {t ty : TypeId} {E : Env} {w : World} {K : Value → World → Prop} {z : Value} (hz : ∀ w, (zeroValue t).run P w = .ok z w) (h : ∀ b w', NewB w (.cells z.cells t) b w' → K (.pointer (some ⟨b, 0, none⟩)) w') : SemOp P (.alloc t) ty E w K := by
  refine .of fun ρ o hρ hop hty => ⟨_, _, ?_, h _ _ ⟨rfl, rfl⟩⟩
  unfold execOp
  rw [hop]
  simp [Instr.alloc, hz, run_newVar]
/-- The operation append(s, x...). -/
theorem sem_app (hτ : TOk P τ) {t e ty : TypeId} {s1 b1 : Nat} {z1 : Value} {td : TD} {bytes : Nat} {z : Value} {α : Type} {k : Kd α} (ht : tlook τ t = some ⟨.slice e, s1, b1, z1⟩) (he : tlook τ e = some ⟨td, k.nc, bytes, z⟩) (hz : (cellsOf z).length = k.nc)
    {S S' : Nat → Prop} {w : World} {v u : Value} {xs ys : List α} {E : Env} {K : Value → World → Prop} {s x : Operand} (hs : ev E s = some v) (hx : ev E x = some u)
    (ho : Own k e S w v xs) (hy : SlR k S' w u ys) (hd : ∀ b, v.ownBlock = some b → ¬ S' b) (hb : (xs.length + ys.length) * bytes ≤ 140737488355328) (hb2 : xs.length + ys.length ≤ 140737488355328)
    (hK : ∀ v' w', Own k e (fun b => (S b ∨ S' b) ∧ b < w.heap.size ∨ w.heap.size ≤ b) w' v' (xs ++ ys) → Chg (fun b => v.ownBlock = some b) w w' → K v' w') :
    SemOp P (.call { callee := .builtin .append, args := #[s, x], argTypes := #[t, t] }) ty E w K := by
  refine .of fun ρ o hρ hop hty => ?_
  obtain ⟨v', w', hr, h1, h2, _⟩ := run_app (P := P) hτ (ty := o.type) ht he hz ho hy hd hb hb2
  refine ⟨v', w', ?_, hK v' w' h1 h2⟩
  unfold execOp
  rw [hop]
  simp only [resolve, Sem.run_bind, Sem.run_pure, Result.andThen_ok, invoke, builtin, List.map_toArray, List.map_cons, List.map_nil, hρ s v hs, hρ x u hx, hr]

/-! ## Strings -/
theorem str_inj {a b : List UInt8} (h : str a = str b) : a = b := by
  have := congrArg (fun s : ByteArray => s.data.toList) h
  simpa using this
theorem str_ba (a : List UInt8) : (str a).toList = a := by rw [ByteArray.toList_eq]
theorem strEq_str (a b : List UInt8) : strEq (str a) (str b) = decide (a = b) := by
  rw [strEq_def, str_ba, str_ba]
  by_cases h : a = b
  · simp [h]
  · simp [h]
theorem condP_str {a b : List UInt8} {A B : Prop} (h : a = b → A) (h' : a ≠ b → B) : condP (strEq (str a) (str b)) A B := by
  rw [strEq_str]
  by_cases hp : a = b
  · rw [decide_eq_true hp]; exact h hp
  · rw [decide_eq_false hp]; exact h' hp
/-- The order of strings. -/
def sLt : List UInt8 → List UInt8 → Bool
  | _, [] => false
  | [], _ :: _ => true
  | a :: x, b :: y => decide (a < b) || (a == b && sLt x y)
theorem strLt_str (a b : List UInt8) : strLt (str a) (str b) = sLt a b := by
  rw [strLt_def, str_ba, str_ba]
  induction a generalizing b with
  | nil => cases b <;> rfl
  | cons x r ih => cases b with
    | nil => rfl
    | cons y s => simp only [Op.bytesLess, sLt, ih]
theorem condP_lt {a b : List UInt8} {A B : Prop} (h : sLt a b = true → A) (h' : sLt a b = false → B) : condP (strLt (str a) (str b)) A B := by
  rw [strLt_str]; exact condP_cases h h'
theorem str_size (a : List UInt8) : (str a).size = a.length := rfl
theorem str_append (a b : List UInt8) : str a ++ str b = str (a ++ b) := by
  apply ByteArray.ext
  simp
theorem str_extract (a : List UInt8) (i j : Nat) : (str a).extract i j = str ((a.take j).drop i) := by
  apply ByteArray.ext
  simp [ByteArray.data_extract, List.extract_eq_take_drop, List.drop_take]
theorem byteAt_str (a : List UInt8) (i : Int) : byteAt (str a) i = ((a.getD i.toNat 0).toNat : Int) := rfl

/-! ## Numbers of blocks; elements by an index -/
def kU : Kd Nat where
  nc := 1
  rep := fun _ _ x cs => cs = [.int .u64 x]
  pos := by decide
  len := by rintro S w x cs rfl; rfl
  one := by rintro S w x cs rfl u hu; simp at hu; subst hu; rfl
  up := fun h _ => h
  mono := fun h _ => h
theorem SlR.at_ {α : Type} {k : Kd α} {S : Nat → Prop} {w : World} {A : Option Addr} {m c : Nat} {xs : List α} (h : SlR k S w (.slice A m c) xs) (d : α) (i : Int) (h0 : 0 ≤ i) (h1 : i < m) :
    ∃ ad cs, A = some ad ∧ S ad.block ∧ k.rep S w (xs.getD i.toNat d) cs ∧ CellsAt w (ad.add (i.toNat * k.nc)) cs := by
  obtain ⟨rfl, _⟩ := h.len
  have hl : i.toNat < xs.length := by omega
  obtain ⟨ad, cs, h2⟩ := h.get (List.getElem?_eq_getElem hl)
  refine ⟨ad, cs, ?_⟩
  rw [List.getD_eq_getElem?_getD, List.getElem?_eq_getElem hl]
  exact h2
theorem SlR.u {S : Nat → Prop} {w : World} {A : Option Addr} {m c : Nat} {xs : List Nat} (h : SlR kU S w (.slice A m c) xs) (i : Int) (h0 : 0 ≤ i) (h1 : i < m) : ∃ ad, A = some ad ∧ w.cell? (ad.add (i.toNat * 1)) = some (.int .u64 ((xs.getD i.toNat 0 : Nat) : Int)) := by
  obtain ⟨ad, cs, rfl, _, rfl, hc⟩ := h.at_ 0 i h0 h1
  exact ⟨ad, rfl, cellsAt_zero hc rfl⟩
theorem SlR.s {S : Nat → Prop} {w : World} {A : Option Addr} {m c : Nat} {xs : List (List UInt8)} (h : SlR kStr S w (.slice A m c) xs) (i : Int) (h0 : 0 ≤ i) (h1 : i < m) : ∃ ad, A = some ad ∧ w.cell? (ad.add (i.toNat * 1)) = some (.string (str (xs.getD i.toNat []))) := by
  obtain ⟨ad, cs, rfl, _, rfl, hc⟩ := h.at_ [] i h0 h1
  exact ⟨ad, rfl, cellsAt_zero hc rfl⟩
theorem SlR.i {ik : IntKind} {S : Nat → Prop} {w : World} {A : Option Addr} {m c : Nat} {xs : List Int} (h : SlR (kInt ik) S w (.slice A m c) xs) (i : Int) (h0 : 0 ≤ i) (h1 : i < m) : ∃ ad, A = some ad ∧ w.cell? (ad.add (i.toNat * 1)) = some (.int ik (xs.getD i.toNat 0)) := by
  obtain ⟨ad, cs, rfl, _, rfl, hc⟩ := h.at_ 0 i h0 h1
  exact ⟨ad, rfl, cellsAt_zero hc rfl⟩
/-- A slice's beginning. -/
theorem SlR.take_ {α : Type} {k : Kd α} {S : Nat → Prop} {w : World} {A : Option Addr} {m c : Nat} {xs : List α} (h : SlR k S w (.slice A m c) xs) {j : Nat} (hj : j ≤ xs.length) : SlR k S w (.slice A j c) (xs.take j) := by
  obtain ⟨rfl, h1, h2⟩ := h.len
  refine ⟨A, c, by rw [List.length_take, Nat.min_eq_left hj], by rw [List.length_take]; omega, h2, fun i x hi => ?_⟩
  rw [List.getElem?_take] at hi
  split at hi
  · exact h.get hi
  · cases hi
theorem Own.take_ {α : Type} {k : Kd α} {e : TypeId} {S : Nat → Prop} {w : World} {A : Option Addr} {m c : Nat} {xs : List α} (h : Own k e S w (.slice A m c) xs) {j : Nat} (hj : j ≤ xs.length) : Own k e S w (.slice A j c) (xs.take j) := by
  have hm := h.read.len.1
  obtain ⟨css, hl, ho, hr, hS⟩ := h
  have hcl : ∀ cs ∈ css, cs.length = k.nc := by
    intro cs hcs
    obtain ⟨i, hi, rfl⟩ := List.getElem_of_mem hcs
    exact k.len (hr i xs[i] css[i] (List.getElem?_eq_getElem (by omega)) (List.getElem?_eq_getElem hi))
  have hfl : ∀ (ds : List (List Value)), (∀ cs ∈ ds, cs.length = k.nc) → ∀ j, (ds.take j).flatten = ds.flatten.take (j * k.nc) := by
    intro ds
    induction ds with
    | nil => simp
    | cons d r ih =>
      intro hd j
      have h1 := hd d (by simp)
      cases j with
      | zero => simp
      | succ j => rw [List.take_succ_cons, List.flatten_cons, List.flatten_cons, ih (fun cs h => hd cs (by simp [h])), List.take_append, h1, show (j + 1) * k.nc - k.nc = j * k.nc by rw [Nat.succ_mul]; omega, List.take_of_length_le (l := d) (by rw [h1, Nat.succ_mul]; omega)]
  have hb : (Value.slice A m c).ownBlock = (Value.slice A j c).ownBlock := by cases A <;> rfl
  refine ⟨css.take j, by simp [hl], ?_, ?_, fun b hb2 => hS b (by rw [hb]; exact hb2)⟩
  · rw [List.length_take, Nat.min_eq_left hj, hfl css hcl]
    have hlen : css.flatten.length = xs.length * k.nc := ho.1
    refine ⟨by rw [List.length_take, hlen]; exact Nat.min_eq_left (Nat.mul_le_mul_right _ hj), ?_⟩
    rcases ho.2 with ⟨he, h0⟩ | ⟨g, cap, cur, he, hg, hh, hnc, hcm, hsz, htk⟩
    · cases he; exact .inl ⟨by rw [show j = 0 by omega], by omega⟩
    · cases he
      refine .inr ⟨g, c, cur, rfl, hg, hh, by omega, hcm, hsz, ?_⟩
      rw [← htk, List.take_take, Nat.min_eq_left (Nat.mul_le_mul_right _ hj)]
  · intro i x cs hi hc
    rw [List.getElem?_take] at hi hc
    split at hi
    · rename_i hij
      rw [if_pos hij] at hc
      rw [← hb]
      exact hr i x cs hi hc
    · cases hi

/-! ## What is made anew -/
/-- A slice that was made since w0, and nothing that stood then has changed. -/
structure Fresh {α : Type} (k : Kd α) (e : TypeId) (w0 w : World) (v : Value) (xs : List α) : Prop where
  own : ∃ S, Own k e S w v xs ∧ ∀ b, S b → w0.heap.size ≤ b
  ext : Ext w0 w
theorem Fresh.nil {α : Type} (k : Kd α) (e : TypeId) {w0 w : World} (h : Ext w0 w) : Fresh k e w0 w (.slice none 0 0) [] := ⟨⟨No, Own.nil k e No w, fun _ h => h.elim⟩, h⟩
theorem Fresh.shape {α : Type} {k : Kd α} {e : TypeId} {w0 w : World} {v : Value} {xs : List α} (h : Fresh k e w0 w v xs) : ∃ A c, v = .slice A xs.length c ∧ xs.length ≤ c ∧ c ≤ 9223372036854775807 := by
  obtain ⟨S, ho, _⟩ := h.own; exact ho.shape
theorem Fresh.read {α : Type} {k : Kd α} {e : TypeId} {w0 w : World} {v : Value} {xs : List α} (h : Fresh k e w0 w v xs) : SlR k (New w0) w v xs := by
  obtain ⟨S, ho, hS⟩ := h.own; exact ho.read.mono fun b hb _ => hS b hb
theorem Fresh.old {α : Type} {k : Kd α} {e : TypeId} {w0 w : World} {v : Value} {xs : List α} (h : Fresh k e w0 w v xs) : SlR k (Old w) w v xs := h.read.old
theorem Fresh.up {α : Type} {k : Kd α} {e : TypeId} {w0 w w' : World} {v : Value} {xs : List α} (h : Fresh k e w0 w v xs) (hc : Ext w w') : Fresh k e w0 w' v xs := by
  obtain ⟨S, ho, hS⟩ := h.own; exact ⟨⟨S, ho.ext hc, hS⟩, h.ext.ext hc⟩
theorem Fresh.back {α : Type} {k : Kd α} {e : TypeId} {w0 w1 w : World} {v : Value} {xs : List α} (h : Fresh k e w1 w v xs) (hc : Ext w0 w1) : Fresh k e w0 w v xs := by
  obtain ⟨S, ho, hS⟩ := h.own; exact ⟨⟨S, ho, fun b hb => Nat.le_trans hc.size (hS b hb)⟩, hc.ext h.ext⟩
theorem Fresh.take_ {α : Type} {k : Kd α} {e : TypeId} {w0 w : World} {A : Option Addr} {m c : Nat} {xs : List α} (h : Fresh k e w0 w (.slice A m c) xs) {j : Nat} (hj : j ≤ xs.length) : Fresh k e w0 w (.slice A j c) (xs.take j) := by
  obtain ⟨S, ho, hS⟩ := h.own; exact ⟨⟨S, ho.take_ hj, hS⟩, h.ext⟩
/-- append(v, x): the element in a block of its own, then append. -/
theorem app_one (hτ : TOk P τ) {t e ty : TypeId} {s1 b1 : Nat} {z1 : Value} {td : TD} {bytes : Nat} {z : Value} {α : Type} {k : Kd α} (ht : tlook τ t = some ⟨.slice e, s1, b1, z1⟩) (he : tlook τ e = some ⟨td, k.nc, bytes, z⟩) (hz : (cellsOf z).length = k.nc)
    {S S' : Nat → Prop} {w w2 : World} {v : Value} {xs : List α} {x : α} {cs : List Value} {b : Nat} {E : Env} {K : Value → World → Prop} {s y : Operand} (hs : ev E s = some v) (hy : ev E y = some (.slice (some ⟨b, 0, none⟩) 1 1))
    (hw : NewB w (.cells cs.toArray e) b w2) (ho : Own k e S w v xs) (hx : k.rep S' w x cs) (hd : ∀ b, v.ownBlock = some b → ¬ S' b) (hb : (xs.length + 1) * bytes ≤ 140737488355328) (hb2 : xs.length + 1 ≤ 140737488355328)
    (hK : ∀ v' w', Own k e (fun i => (S i ∨ S' i) ∧ i < w.heap.size ∨ w.heap.size ≤ i) w' v' (xs ++ [x]) → Chg (fun i => v.ownBlock = some i) w w' → K v' w') :
    SemOp P (.call { callee := .builtin .append, args := #[s, y], argTypes := #[t, t] }) ty E w2 K := by
  have hl := Own.lit k e (S := S') (xs := [x]) [cs] rfl (by simpa using hw) (fun j u ds hj hc => by
    cases j with
    | zero => simp at hj hc; subst hj; subst hc; exact hx
    | succ j => simp at hj) (by simp)
  have ho2 := ho.ext (hw.chg No)
  have hbw := hw.hb
  refine sem_app hτ ht he hz hs hy ho2 hl.read (fun i hi hS => ?_) hb hb2 (fun v' w' h1 h2 => hK v' w' (h1.mono fun i hi _ => ?_) ?_)
  · rcases hS with hS | rfl
    · exact hd i hi hS.1
    · have := ho.lt hi; omega
  · have := hw.size
    rcases hi with ⟨hi, hlt⟩ | hi
    · rcases hi with hi | ⟨hi, h3⟩ | rfl
      · by_cases h4 : i < w.heap.size
        · exact .inl ⟨.inl hi, h4⟩
        · exact .inr (by omega)
      · exact .inl ⟨.inr hi, h3⟩
      · exact .inr (by omega)
    · exact .inr (by omega)
  · exact (hw.chg (fun i => v.ownBlock = some i)).trans h2
theorem app_fresh (hτ : TOk P τ) {t e ty : TypeId} {s1 b1 : Nat} {z1 : Value} {td : TD} {bytes : Nat} {z : Value} {α : Type} {k : Kd α} (ht : tlook τ t = some ⟨.slice e, s1, b1, z1⟩) (he : tlook τ e = some ⟨td, k.nc, bytes, z⟩) (hz : (cellsOf z).length = k.nc)
    {w0 w w2 : World} {v : Value} {xs : List α} {x : α} {cs : List Value} {b : Nat} {E : Env} {K : Value → World → Prop} {s y : Operand} (hs : ev E s = some v) (hy : ev E y = some (.slice (some ⟨b, 0, none⟩) 1 1))
    (hw : NewB w (.cells cs.toArray e) b w2) (ho : Fresh k e w0 w v xs) (hx : k.rep No w x cs) (hb : (xs.length + 1) * bytes ≤ 140737488355328) (hb2 : xs.length + 1 ≤ 140737488355328)
    (hK : ∀ v' w', Fresh k e w0 w' v' (xs ++ [x]) → Chg (fun i => v.ownBlock = some i) w w' → K v' w') :
    SemOp P (.call { callee := .builtin .append, args := #[s, y], argTypes := #[t, t] }) ty E w2 K := by
  obtain ⟨S, h1, hS⟩ := ho.own
  have hown : ∀ i, v.ownBlock = some i → w0.heap.size ≤ i := fun i hi => by
    obtain ⟨css, _, _, _, hS2⟩ := h1
    exact hS i (hS2 i hi)
  refine app_one hτ ht he hz hs hy hw h1 hx (fun _ _ h => h) hb hb2 fun v' w' h2 h3 => hK v' w' ⟨⟨_, h2, fun i hi => ?_⟩, ho.ext.then h3 fun i hi hm => ?_⟩ h3
  · have := ho.ext.size
    rcases hi with ⟨hi | hi, _⟩ | hi
    · exact hS i hi
    · exact hi.elim
    · omega
  · have := hown i hm; omega
end Go.Proofs.YtfeegacmmfgjfaaGreatDoorX

/-!  The framework, part N: writing elements of one's own slices. -/
set_option linter.unusedVariables false
namespace Go.Proofs.YtfeegacmmfgjfaaGreatDoorX
open Go Go.RowKit
variable {P : Program} {τ : TT}

/-- Elements of one cell. -/
structure One {α : Type} (k : Kd α) (enc : α → Value) : Prop where
  nc : k.nc = 1
  rep : ∀ S w x cs, k.rep S w x cs ↔ cs = [enc x]
theorem kU_one : One kU (fun n => .int .u64 (n : Int)) := ⟨rfl, fun _ _ _ _ => Iff.rfl⟩
theorem kStr_one : One kStr (fun l => .string (str l)) := ⟨rfl, fun _ _ _ _ => Iff.rfl⟩
theorem kInt_one (ik : IntKind) : One (kInt ik) (fun n => .int ik n) := ⟨rfl, fun _ _ _ _ => Iff.rfl⟩
theorem flat_one {α : Type} (enc : α → Value) (xs : List α) : (xs.map fun x => [enc x]).flatten = xs.map enc := by
  induction xs with
  | nil => rfl
  | cons x r ih => simp [ih]
theorem own_out {α : Type} {k : Kd α} {enc : α → Value} (h1 : One k enc) {e : TypeId} {S : Nat → Prop} {w : World} {A : Option Addr} {n c : Nat} {xs : List α} (h : Own k e S w (.slice A n c) xs) (h0 : 0 < xs.length) :
    ∃ g cur, A = some ⟨g, 0, none⟩ ∧ n = xs.length ∧ S g ∧ w.heap[g]? = some (.cells cur e (0, 0)) ∧ n ≤ c ∧ c ≤ maxLen ∧ cur.size = c ∧ cur.toList.take xs.length = xs.map enc := by
  obtain ⟨css, hl, ho, hr, hS⟩ := h
  rcases ho.2 with ⟨he, h2⟩ | ⟨g, cap, cur, he, _, hh, hnc, hcm, hsz, htk⟩
  · omega
  · cases he
    refine ⟨g, cur, rfl, rfl, hS g rfl, hh, hnc, hcm, by rw [hsz, h1.nc, Nat.mul_one], ?_⟩
    rw [h1.nc, Nat.mul_one] at htk
    rw [htk]
    have : css = xs.map fun x => [enc x] := by
      apply List.ext_getElem (by simp [hl])
      intro i hi1 hi2
      have := hr i xs[i] css[i] (List.getElem?_eq_getElem (by omega)) (List.getElem?_eq_getElem hi1)
      rw [h1.rep] at this
      rw [this]; simp
    rw [this, flat_one]
theorem own_in {α : Type} {k : Kd α} {enc : α → Value} (h1 : One k enc) {e : TypeId} {S : Nat → Prop} {w : World} {c g : Nat} {cur : Array Value} {xs : List α} (hS : S g) (hh : w.heap[g]? = some (.cells cur e (0, 0))) (hc : xs.length ≤ c) (hm : c ≤ maxLen) (hs : cur.size = c) (ht : cur.toList.take xs.length = xs.map enc) :
    Own k e S w (.slice (some ⟨g, 0, none⟩) xs.length c) xs := by
  refine ⟨xs.map fun x => [enc x], by simp, ?_, ?_, ?_⟩
  · have hf : (xs.map fun x => [enc x]).flatten = xs.map enc := flat_one enc xs
    rw [hf, h1.nc]
    exact ⟨by simp, .inr ⟨g, c, cur, rfl, Nat.zero_le _, hh, hc, hm, by omega, by rw [Nat.mul_one]; exact ht⟩⟩
  · intro j x cs hx hcs
    rw [h1.rep]
    rw [List.getElem?_map, hx] at hcs
    exact (Option.some.inj hcs).symm
  · intro b hb
    simp only [Value.ownBlock, Option.some.injEq] at hb
    subst hb; exact hS
theorem own_cell {α : Type} {k : Kd α} {enc : α → Value} (h1 : One k enc) {e : TypeId} {S : Nat → Prop} {w : World} {g n c : Nat} {xs : List α} (h : Own k e S w (.slice (some ⟨g, 0, none⟩) n c) xs) {j : Nat} (hj : j < xs.length) (d : α) :
    w.cell? ⟨g, j, none⟩ = some (enc (xs.getD j d)) ∧ w.frozen? ⟨g, j, none⟩ = false := by
  obtain ⟨g', cur, he, hn, hS, hh, hc, hm, hs, ht⟩ := own_out h1 h (by omega)
  cases he
  refine ⟨?_, frozen_of_blk hh j⟩
  rw [cell_of_blk hh, ← Array.getElem?_toList]
  have : (cur.toList.take xs.length)[j]? = (xs.map enc)[j]? := by rw [ht]
  rw [List.getElem?_take, if_pos hj] at this
  rw [this, List.getElem?_map, List.getD_eq_getElem?_getD, List.getElem?_eq_getElem hj]
  rfl
theorem own_set {α : Type} {k : Kd α} {enc : α → Value} (h1 : One k enc) {e : TypeId} {S : Nat → Prop} {w w' : World} {g n c : Nat} {xs : List α} (h : Own k e S w (.slice (some ⟨g, 0, none⟩) n c) xs) {j : Nat} (hj : j < xs.length) (x : α) (hw : SetB w ⟨g, j, none⟩ (enc x) w') :
    Own k e S w' (.slice (some ⟨g, 0, none⟩) n c) (xs.set j x) := by
  obtain ⟨g', cur, he, hn, hS, hh, hc, hm, hs, ht⟩ := own_out h1 h (by omega)
  cases he
  obtain ⟨rfl⟩ := hw
  have h2 := own_in (k := k) h1 (xs := xs.set j x) (c := c) (cur := cur.setIfInBounds j (enc x)) hS (set_blk hh j (enc x)) (by rw [List.length_set]; omega) hm (by simp [hs]) (by
    rw [List.length_set, Array.toList_setIfInBounds, List.take_set, ht, List.map_set])
  rw [List.length_set, ← hn] at h2
  exact h2
theorem Fresh.out {α : Type} {k : Kd α} {enc : α → Value} (h1 : One k enc) {e : TypeId} {w0 w : World} {A : Option Addr} {n c : Nat} {xs : List α} (h : Fresh k e w0 w (.slice A n c) xs) (h0 : 0 < xs.length) : ∃ g, A = some ⟨g, 0, none⟩ ∧ n = xs.length ∧ w0.heap.size ≤ g ∧ g < w.heap.size ∧ n ≤ c ∧ c ≤ 9223372036854775807 := by
  obtain ⟨S, ho, hS⟩ := h.own
  obtain ⟨g, cur, rfl, hn, hg, hh, hc, hm, _⟩ := own_out h1 ho h0
  exact ⟨g, rfl, hn, hS g hg, (Array.getElem?_eq_some_iff.1 hh).1, hc, hm⟩
theorem Fresh.cell {α : Type} {k : Kd α} {enc : α → Value} (h1 : One k enc) {e : TypeId} {w0 w : World} {g n c : Nat} {xs : List α} (h : Fresh k e w0 w (.slice (some ⟨g, 0, none⟩) n c) xs) {j : Nat} (hj : j < xs.length) (d : α) :
    w.cell? ⟨g, j, none⟩ = some (enc (xs.getD j d)) ∧ w.frozen? ⟨g, j, none⟩ = false := by
  obtain ⟨S, ho, hS⟩ := h.own
  exact own_cell h1 ho hj d
theorem Fresh.set {α : Type} {k : Kd α} {enc : α → Value} (h1 : One k enc) {e : TypeId} {w0 w w' : World} {g n c : Nat} {xs : List α} (h : Fresh k e w0 w (.slice (some ⟨g, 0, none⟩) n c) xs) {j : Nat} (hj : j < xs.length) (x : α) (hw : SetB w ⟨g, j, none⟩ (enc x) w') :
    Fresh k e w0 w' (.slice (some ⟨g, 0, none⟩) n c) (xs.set j x) := by
  obtain ⟨S, ho, hS⟩ := h.own
  obtain ⟨g', he, _, hg, _⟩ := h.out h1 (by omega)
  cases he
  exact ⟨⟨S, own_set h1 ho hj x hw, hS⟩, h.ext.then (hw.chg (fun b => b = g) rfl) fun i hi hm => by omega⟩
/-- What is new since w0, told of by what a step leaves: another row that is not written stays. -/
theorem Fresh.stay {α : Type} {k : Kd α} {e : TypeId} {w0 w w' : World} {v : Value} {xs : List α} {M : Nat → Prop} {enc : α → Value} (h1 : One k enc) (h : Fresh k e w0 w v xs) (hc : Chg M w w') (hm : ∀ b, M b → w0.heap.size ≤ b) (hv : ∀ b, v.ownBlock = some b → ¬ M b) : Fresh k e w0 w' v xs := by
  obtain ⟨S, ho, hS⟩ := h.own
  obtain ⟨A, c, rfl, _⟩ := h.shape
  refine ⟨⟨fun b => w0.heap.size ≤ b, ?_, fun _ h => h⟩, h.ext.then hc fun i hi hM => by have := hm i hM; omega⟩
  rcases Nat.eq_zero_or_pos xs.length with h0 | h0
  · have hx : xs = [] := List.eq_nil_of_length_eq_zero h0
    subst hx
    obtain ⟨css, hl, hrow, hrr, hS2⟩ := ho
    refine ⟨css, hl, ?_, fun j x cs hx => by simp at hx, fun b hb => hS b (hS2 b hb)⟩
    rcases hrow.2 with ⟨he, h2⟩ | ⟨g, cap, cur, he, h3, hh, h4⟩
    · exact ⟨hrow.1, .inl ⟨he, h2⟩⟩
    · cases he
      exact ⟨hrow.1, .inr ⟨g, _, cur, rfl, h3, by rw [hc.block g (Array.getElem?_eq_some_iff.1 hh).1 (hv g rfl)]; exact hh, h4⟩⟩
  · obtain ⟨g, cur, rfl, hn, hg, hh, hnc, hm2, hs, ht⟩ := own_out h1 ho h0
    exact own_in h1 (hS g hg) (by rw [hc.block g (Array.getElem?_eq_some_iff.1 hh).1 (hv g rfl)]; exact hh) hnc hm2 hs ht
theorem Fresh.made {α : Type} {k : Kd α} {enc : α → Value} (h1 : One k enc) {e : TypeId} {w0 w w' : World} {b n : Nat} {x : α} (h : Ext w0 w) (hn : n ≤ 9223372036854775807) (hw : NewB w (.cells (List.replicate n (enc x)).toArray e) b w') : Fresh k e w0 w' (.slice (some ⟨b, 0, none⟩) n n) (List.replicate n x) := by
  have h2 := own_in (k := k) (S := fun b => w0.heap.size ≤ b) (c := n) (xs := List.replicate n x) h1 (by have := h.size; rw [hw.hb]; exact this) hw.blk (by simp) (by unfold maxLen; omega) (by simp) (by simp)
  rw [List.length_replicate] at h2
  exact ⟨⟨_, h2, fun _ h => h⟩, h.trans (hw.chg _)⟩
theorem Fresh.own1 {α : Type} {k : Kd α} {enc : α → Value} (h1 : One k enc) {e : TypeId} {w0 w : World} {v : Value} {xs : List α} (h : Fresh k e w0 w v xs) : Own k e (fun b => v.ownBlock = some b) w v xs := by
  obtain ⟨S, ho, hS⟩ := h.own
  obtain ⟨css, hl, hrow, hr, hS2⟩ := ho
  refine ⟨css, hl, hrow, fun j x cs hx hc => ?_, fun b hb => hb⟩
  have := hr j x cs hx hc
  rw [h1.rep] at this ⊢
  exact this
theorem Fresh.new1 {α : Type} {k : Kd α} {enc : α → Value} (h1 : One k enc) {e : TypeId} {w0 w : World} {v : Value} {xs : List α} (h : Fresh k e w0 w v xs) {b : Nat} (hb : v.ownBlock = some b) : w0.heap.size ≤ b ∧ b < w.heap.size := by
  obtain ⟨S, ho, hS⟩ := h.own
  have hlt := ho.lt hb
  obtain ⟨css, hl, hrow, hr, hS2⟩ := ho
  exact ⟨hS b (hS2 b hb), hlt⟩
theorem app_fresh1 (hτ : TOk P τ) {t e ty : TypeId} {s1 b1 : Nat} {z1 : Value} {td : TD} {bytes : Nat} {z : Value} {α : Type} {k : Kd α} {enc : α → Value} (h1 : One k enc) (ht : tlook τ t = some ⟨.slice e, s1, b1, z1⟩) (he : tlook τ e = some ⟨td, k.nc, bytes, z⟩) (hz : (cellsOf z).length = k.nc)
    {w0 w w2 : World} {v : Value} {xs : List α} {x : α} {cs : List Value} {b : Nat} {E : Env} {K : Value → World → Prop} {s y : Operand} (hs : ev E s = some v) (hy : ev E y = some (.slice (some ⟨b, 0, none⟩) 1 1))
    (hw : NewB w (.cells cs.toArray e) b w2) (ho : Fresh k e w0 w v xs) (hx : k.rep No w x cs) (hb : (xs.length + 1) * bytes ≤ 140737488355328) (hb2 : xs.length + 1 ≤ 140737488355328)
    (hK : ∀ v' w', Fresh k e w0 w' v' (xs ++ [x]) → Chg (fun i => v.ownBlock = some i) w w' → (∀ i, v'.ownBlock = some i → v.ownBlock = some i ∨ w.heap.size ≤ i) → K v' w') :
    SemOp P (.call { callee := .builtin .append, args := #[s, y], argTypes := #[t, t] }) ty E w2 K := by
  refine app_one hτ ht he hz hs hy hw (ho.own1 h1) hx (fun _ _ h => h) hb hb2 fun v' w' h2 h3 => ?_
  have hS : ∀ i, v'.ownBlock = some i → v.ownBlock = some i ∨ w.heap.size ≤ i := fun i hi => by
    obtain ⟨css, _, _, _, hS2⟩ := h2
    rcases hS2 i hi with ⟨h | h, _⟩ | h
    · exact .inl h
    · exact h.elim
    · exact .inr h
  refine hK v' w' ⟨⟨_, h2, fun i hi => ?_⟩, ho.ext.then h3 fun i hi hm => ?_⟩ h3 hS
  · have := ho.ext.size
    rcases hi with ⟨hi | hi, _⟩ | hi
    · exact (ho.new1 h1 hi).1
    · exact hi.elim
    · omega
  · have := (ho.new1 h1 hm).1; omega
theorem cut_at (g c l : Nat) (h : l < c) : cutA (some ⟨g, 0, none⟩) c l 1 = some ⟨g, l, none⟩ := by
  unfold cutA
  rw [if_neg (by omega), Option.map_some, addr_add, Nat.zero_add, Nat.mul_one]

/-! ## A loop whose ways out meet -/
def cutQ (id : Nat) (outs keep slots : List Nat) (fs : List Value) (I J : List Value → World → Prop) (lower : List Value → World → Prop) (D : List Deferred) (Q : XQ) : XQ
  | .normal, D', E', w' => gets E' keep fun fs' => gets E' slots fun vs' => (D' = D ∧ fs' = fs) ∧ I vs' w' ∧ lower vs' w'
  | .exit j, D', E', w' => (match Nat.beq j id with
    | true => gets E' keep fun fs' => gets E' outs fun vs' => (D' = D ∧ fs' = fs) ∧ J vs' w'
    | false => Q (.exit j) D' E' w')
  | e, D', E', w' => Q e D' E' w'
theorem loop_cut {n : Nat} (hτ : TOk P τ) (id : Nat) (slots keep outs : List Nat) (I : List Value → World → Prop) (μ : List Value → World → Nat) (J : List Value → World → Prop) {c : Code} {Q : XQ} {D : List Deferred} {E : Env} {w : World}
    (h : gets E keep fun fs => (gets E slots fun vs => I vs w) ∧ (∀ vs w, I vs w → xcode P τ n c (cutQ id outs keep slots fs I J (fun vs' w' => μ vs' w' < μ vs w) D Q) D (zipE slots vs (zipE keep fs [])) w) ∧
      ∀ vs w, J vs w → Q (.exit id) D (zipE outs vs (zipE keep fs [])) w) : LoopP P τ n c Q D E w := by
  refine ⟨⟨?_⟩⟩
  intro a hf hd
  obtain ⟨fs', ⟨h1, hr, hx⟩, hl2, hz2⟩ := gets_out keep _ h
  obtain ⟨vs, hI, hl, hz⟩ := gets_out slots _ h1
  have hF := hz n a.tmps _ hf (hz2 n a.tmps [] hf hf.nil')
  refine wp_loop_ghost (fun m a' w' => ∃ vs', I vs' w' ∧ μ vs' w' = m ∧ Fits n (zipE slots vs' (zipE keep fs' [])) a'.tmps ∧ a'.defers = D) _ ⟨vs, hI, rfl, hF, hd⟩ ?_
  rintro m a1 w1 ⟨vs1, hI1, rfl, hf1, hd1⟩
  refine wp_mono (xcode_sound hτ c _ D _ w1 (hr vs1 w1 hI1) a1 hf1 hd1) ?_
  rintro e a2 w2 ⟨E2, hf2, h2⟩
  cases e with
  | normal =>
    have hf2 := hf2.resolve_right (fun h => h)
    obtain ⟨fs2, h3, _, hz3⟩ := gets_out keep _ h2
    obtain ⟨vs2, ⟨⟨hD, rfl⟩, hI2, hlt⟩, _, hz4⟩ := gets_out slots _ h3
    exact ⟨_, hlt, vs2, hI2, rfl, hz4 n a2.tmps _ hf2 (hz3 n a2.tmps [] hf2 hf2.nil'), hD⟩
  | exit j =>
    have hf3 := hf2.resolve_right (fun h => h)
    simp only [cutQ] at h2
    split at h2
    · rename_i hb
      obtain rfl := Nat.eq_of_beq_eq_true hb
      obtain ⟨fs2, h3, _, hz3⟩ := gets_out keep _ h2
      obtain ⟨vs2, ⟨⟨hD, rfl⟩, hJ⟩, _, hz4⟩ := gets_out outs _ h3
      exact lift_mk (hz4 n a2.tmps _ hf3 (hz3 n a2.tmps [] hf3 hf3.nil')) (by rw [hD]; exact hx vs2 w2 hJ)
    · exact ⟨E2, hf2, h2⟩
  | _ => exact ⟨E2, hf2, h2⟩
end Go.Proofs.YtfeegacmmfgjfaaGreatDoorX

/-!  The framework, part K: maps. -/
set_option linter.unusedVariables false
set_option linter.unusedSimpArgs false
set_option linter.unusedSectionVars false
namespace Go.Proofs.YtfeegacmmfgjfaaGreatDoorX
open Go Go.RowKit
variable {P : Program} {τ : TT} {n : Nat}

/-! ## A map as the list of its entries, in the order in which they were laid -/
section
variable {α : Type} [DecidableEq α]
def ents (enc : α → Value) : Nat → List (α × Value) → List MapEntry
  | _, [] => []
  | i, (k, v) :: r => { key := enc k, val := v, born := i } :: ents enc (i + 1) r
def mapO (enc : α → Value) (l : List (α × Value)) : Obj := .map (ents enc 0 l).toArray l.length
def aget : List (α × Value) → α → Option Value
  | [], _ => none
  | (a, v) :: r, k => if k = a then some v else aget r k
def apos : List (α × Value) → α → Nat
  | [], _ => 0
  | (a, _) :: r, k => if k = a then 0 else apos r k + 1
def aset : List (α × Value) → α → Value → List (α × Value)
  | [], k, v => [(k, v)]
  | (a, u) :: r, k, v => if k = a then (a, v) :: r else (a, u) :: aset r k v
theorem ents_length (enc : α → Value) (i : Nat) (l : List (α × Value)) : (ents enc i l).length = l.length := by
  induction l generalizing i with
  | nil => rfl
  | cons x r ih => simp [ents, ih]
theorem ents_get (enc : α → Value) (l : List (α × Value)) (i j : Nat) : (ents enc i l)[j]? = (l[j]?).map fun p => { key := enc p.1, val := p.2, born := i + j } := by
  induction l generalizing i j with
  | nil => simp [ents]
  | cons x r ih =>
    cases j with
    | zero => simp [ents]
    | succ j => simp only [ents, List.getElem?_cons_succ, ih]; rw [show i + 1 + j = i + (j + 1) by omega]
theorem ents_append (enc : α → Value) (l r : List (α × Value)) (i : Nat) : ents enc i (l ++ r) = ents enc i l ++ ents enc (i + l.length) r := by
  induction l generalizing i with
  | nil => simp [ents]
  | cons x l ih => simp only [List.cons_append, ents, ih, List.length_cons]; rw [show i + 1 + l.length = i + (l.length + 1) by omega]
theorem aget_none {l : List (α × Value)} {k : α} (h : aget l k = none) (v : Value) : aset l k v = l ++ [(k, v)] ∧ apos l k = l.length := by
  induction l with
  | nil => exact ⟨rfl, rfl⟩
  | cons x r ih =>
    obtain ⟨a, u⟩ := x
    simp only [aget] at h
    split at h
    · cases h
    · rename_i hne
      simp [aset, apos, hne, ih h]
theorem aget_some {l : List (α × Value)} {k : α} {u : Value} (h : aget l k = some u) (v : Value) : l[apos l k]? = some (k, u) ∧ aset l k v = l.set (apos l k) (k, v) := by
  induction l with
  | nil => cases h
  | cons x r ih =>
    obtain ⟨a, u'⟩ := x
    simp only [aget] at h
    split at h
    · rename_i he; subst he; cases h; simp [apos, aset]
    · rename_i hne
      simp [apos, aset, hne, ih h]
theorem aset_get (l : List (α × Value)) (k : α) (v : Value) (k' : α) : aget (aset l k v) k' = if k' = k then some v else aget l k' := by
  induction l with
  | nil => simp [aset, aget]
  | cons x r ih =>
    obtain ⟨a, u⟩ := x
    by_cases h : k = a
    · subst h; by_cases h' : k' = k <;> simp [aset, aget, h']
    · by_cases h' : k' = a
      · subst h'
        have : ¬ k' = k := fun e => h e.symm
        simp [aset, aget, h, this]
      · simp [aset, aget, h, h', ih]
theorem aset_pos (l : List (α × Value)) (k : α) (v : Value) : apos (aset l k v) k = apos l k := by
  induction l with
  | nil => simp [aset, apos]
  | cons x r ih =>
    obtain ⟨a, u⟩ := x
    by_cases h : k = a
    · subst h; simp [aset, apos]
    · simp [aset, apos, h, ih]
theorem aset_aset (l : List (α × Value)) (k : α) (u v : Value) : aset (aset l k u) k v = aset l k v := by
  induction l with
  | nil => simp [aset]
  | cons x r ih =>
    obtain ⟨a, u⟩ := x
    by_cases h : k = a
    · subst h; simp [aset]
    · simp [aset, h, ih]
theorem aset_keys (l : List (α × Value)) (k : α) (v : Value) : (aset l k v).map (·.1) = if k ∈ l.map (·.1) then l.map (·.1) else l.map (·.1) ++ [k] := by
  induction l with
  | nil => simp [aset]
  | cons x r ih =>
    obtain ⟨a, u⟩ := x
    by_cases h : k = a
    · subst h; simp [aset]
    · simp only [aset, h, if_false, List.map_cons, ih, List.mem_cons, false_or]
      split <;> simp
theorem aset_nodup {l : List (α × Value)} (h : (l.map (·.1)).Nodup) (k : α) (v : Value) : ((aset l k v).map (·.1)).Nodup := by
  rw [aset_keys]
  split
  · exact h
  · rename_i hm; exact List.nodup_append.2 ⟨h, by simp, fun a ha b hb => by simp at hb; subst hb; exact fun e => hm (e ▸ ha)⟩

/-- What the model asks of a key's type. -/
structure KeyT (P : Program) (kt : TypeId) (enc : α → Value) : Prop where
  check : ∀ b k w, (Instr.checkKey b 10000 kt (enc k)).run P w = .ok () w
  find : ∀ k l w, (Instr.findKey kt (enc k) (ents enc 0 l)).run P w = .ok ((aget l k).map fun v => (apos l k, v)) w
  same : ∀ k, Instr.sameBits 10000 (enc k) (enc k) = true
theorem find_now {d : TypeDesc} {enc : α → Value} (h : ∀ k a, Instr.sameNow d (enc k) (enc a) = some (decide (k = a))) (k : α) (l : List (α × Value)) (b i : Nat) :
    Instr.findNow d (enc k) (ents enc b l) i = some ((aget l k).map fun v => (i + apos l k, v)) := by
  induction l generalizing b i with
  | nil => rfl
  | cons x r ih =>
    obtain ⟨a, u⟩ := x
    simp only [ents, Instr.findNow, h, aget, apos]
    by_cases he : k = a
    · simp [he]
    · simp only [he, decide_false, if_false, ih]
      congr 2
      funext v
      rw [show i + 1 + apos r k = i + (apos r k + 1) by omega]
theorem find_ask {kt : TypeId} {enc : α → Value} (h : ∀ k a w, (Op.equal kt (enc k) (enc a)).run P w = .ok (decide (k = a)) w) (k : α) (l : List (α × Value)) (b i : Nat) (w : World) :
    (Instr.findAsking kt (enc k) (ents enc b l) i).run P w = .ok ((aget l k).map fun v => (i + apos l k, v)) w := by
  induction l generalizing b i with
  | nil => simp [ents, Instr.findAsking, aget]
  | cons x r ih =>
    obtain ⟨a, u⟩ := x
    simp only [ents, Instr.findAsking, Sem.run_bind, h, Result.andThen_ok, aget, apos]
    by_cases he : k = a
    · simp [he]
    · simp only [he, decide_false, if_false, Bool.false_eq_true, ih]
      congr 2
      funext v
      rw [show i + 1 + apos r k = i + (apos r k + 1) by omega]
theorem find_of_now {kt : TypeId} {d : TypeDesc} {enc : α → Value} (hu : P.underlying kt = some d) (h : ∀ k a, Instr.sameNow d (enc k) (enc a) = some (decide (k = a))) (k : α) (l : List (α × Value)) (w : World) :
    (Instr.findKey kt (enc k) (ents enc 0 l)).run P w = .ok ((aget l k).map fun v => (apos l k, v)) w := by
  simp only [Instr.findKey, Sem.run_bind, run_underlying hu, Result.andThen_ok, find_now h, Sem.run_pure, Nat.zero_add]
theorem find_of_ask {kt : TypeId} {d : TypeDesc} {enc : α → Value} (hu : P.underlying kt = some d) (h0 : ∀ k a, Instr.sameNow d (enc k) (enc a) = none) (h : ∀ k a w, (Op.equal kt (enc k) (enc a)).run P w = .ok (decide (k = a)) w) (k : α) (l : List (α × Value)) (w : World) :
    (Instr.findKey kt (enc k) (ents enc 0 l)).run P w = .ok ((aget l k).map fun v => (apos l k, v)) w := by
  simp only [Instr.findKey, Sem.run_bind, run_underlying hu, Result.andThen_ok]
  cases l with
  | nil => simp [ents, Instr.findNow, aget]
  | cons x r =>
    obtain ⟨a, u⟩ := x
    have := find_ask h k ((a, u) :: r) 0 0 w
    simp only [Nat.zero_add] at this
    simp only [ents, Instr.findNow, h0]
    simp only [ents] at this
    exact this
end
/-- A string as a key; an int; a pair of strings in a struct. -/
def eStr (l : List UInt8) : Value := .string (str l)
def eI64 (i : Int) : Value := .int .i64 i
def eSS (p : List UInt8 × List UInt8) : Value := .agg #[.string (str p.1), .string (str p.2)]
theorem str_beq (a b : List UInt8) : (str a == str b) = decide (a = b) := by
  rw [beq_toListBytes, str_ba, str_ba]
  by_cases h : a = b
  · subst h; simp
  · simp [h]
theorem KeyT.str {kt : TypeId} (hu : P.underlying kt = some .string) : KeyT P kt eStr where
  check b k w := by
    have h : ∀ n, (Instr.checkKey b (n + 1) kt (eStr k)).run P w = .ok () w := fun n => by simp [Instr.checkKey, eStr, run_underlying hu]
    exact h 9999
  find := find_of_now hu fun k a => by simp only [eStr, Instr.sameNow, str_beq]
  same k := by
    have h : ∀ n, Instr.sameBits n (eStr k) (eStr k) = true := fun n => by cases n <;> simp [eStr, Instr.sameBits, str_beq]
    exact h _
theorem KeyT.i64 {kt : TypeId} (hu : P.underlying kt = some (.int .i64)) : KeyT P kt eI64 where
  check b k w := by
    have h : ∀ n, (Instr.checkKey b (n + 1) kt (eI64 k)).run P w = .ok () w := fun n => by simp [Instr.checkKey, eI64, run_underlying hu]
    exact h 9999
  find := find_of_now hu fun k a => by
    simp only [eI64, Instr.sameNow, if_true]
    by_cases h : k = a
    · subst h; simp
    · simp [h]
  same k := by
    have h : ∀ n, Instr.sameBits n (eI64 k) (eI64 k) = true := fun n => by cases n <;> simp [eI64, Instr.sameBits]
    exact h _

/-! ## The operations -/
/-- An object laid anew at its place. -/
structure SetO (w : World) (b : Nat) (o : Obj) (w' : World) : Prop where
  hw : w' = { w with heap := w.heap.setIfInBounds b o }
theorem SetO.chg {w w' : World} {b : Nat} {o : Obj} (h : SetO w b o w') (M : Nat → Prop) (hM : M b) : Chg M w w' := by
  obtain ⟨rfl⟩ := h
  refine ⟨rfl, rfl, rfl, by simp, fun k hk hm => ?_⟩
  have : b ≠ k := fun e => hm (e ▸ hM)
  simp [this]
theorem SetO.blk {w w' : World} {b : Nat} {o o0 : Obj} (h : SetO w b o w') (h0 : w.heap[b]? = some o0) : w'.heap[b]? = some o := by
  obtain ⟨rfl⟩ := h
  have := (Array.getElem?_eq_some_iff.1 h0).1
  simp [this]
theorem SetO.size {w w' : World} {b : Nat} {o : Obj} (h : SetO w b o w') : w'.heap.size = w.heap.size := by
  obtain ⟨rfl⟩ := h
  simp
theorem run_getO {w : World} {b : Nat} {es : Array MapEntry} {c : Nat} (h : w.heap[b]? = some (.map es c)) : (getObj b).run P w = .ok (.map es c) w := by
  simp [getObj, Sem.run, h]
theorem run_setO {w : World} {b : Nat} {o : Obj} {es : Array MapEntry} {c : Nat} (h : w.heap[b]? = some (.map es c)) : (setObj b o).run P w = .ok () { w with heap := w.heap.setIfInBounds b o } := by
  simp [setObj, Sem.run, h]
section
variable {α : Type} [DecidableEq α] {enc : α → Value} {t kt e : TypeId} {w : World} {b : Nat} {l : List (α × Value)}
theorem run_lookup (K : KeyT P kt enc) (ht : P.underlying t = some (.map kt e)) {z : Value} (hz : ∀ w, (zeroValue e).run P w = .ok z w) (hb : w.heap[b]? = some (mapO enc l)) (k : α) (ok : Bool) :
    (Instr.lookup t (.map (some b)) (enc k) ok).run P w = .ok (if ok then .tuple #[(aget l k).getD z, .bool (aget l k).isSome] else (aget l k).getD z) w := by
  unfold mapO at hb
  simp only [Instr.lookup, Sem.run_bind, run_underlying ht, Result.andThen_ok, run_getO hb, Sem.run_pure, K.check, K.find]
  cases h : aget l k with
  | none => simp only [Option.map_none, Sem.run_bind, hz, Result.andThen_ok, Sem.run_pure, Option.getD_none, Option.isSome_none]
  | some v => simp only [Option.map_some, Sem.run_bind, Result.andThen_ok, Sem.run_pure, Option.getD_some, Option.isSome_some]
theorem ents_push (k : α) (v : Value) : ((ents enc 0 l).toArray.push { key := enc k, val := v, born := l.length }) = (ents enc 0 (l ++ [(k, v)])).toArray := by
  rw [ents_append]; simp [ents]
theorem ents_modify (i : Nat) (k : α) (u v : Value) (h : l[i]? = some (k, u)) (f : MapEntry → MapEntry) (hf : ∀ j, f { key := enc k, val := u, born := j } = { key := enc k, val := v, born := j }) : (ents enc 0 l).toArray.modify i f = (ents enc 0 (l.set i (k, v))).toArray := by
  apply Array.toList_inj.1
  apply List.ext_getElem?
  intro j
  rw [Array.getElem?_toList, Array.getElem?_modify, Array.getElem?_toList]
  simp only [List.getElem?_toArray, ents_get, List.getElem?_set, Nat.zero_add]
  by_cases hij : i = j
  · subst hij
    have hlt : i < l.length := (List.getElem?_eq_some_iff.1 h).1
    obtain ⟨h3, h4⟩ := List.getElem?_eq_some_iff.1 h
    simp [h4, hlt, hf]
  · simp [hij]
theorem run_keyStays (K : KeyT P kt enc) (k : α) (w : World) : (Instr.keyThatStays (enc k) (enc k)).run P w = .ok (enc k) w := by
  simp [Instr.keyThatStays, K.same]
theorem run_mapUpdate (K : KeyT P kt enc) (ht : P.underlying t = some (.map kt e)) (hb : w.heap[b]? = some (mapO enc l)) (k : α) (v : Value) :
    (Instr.mapUpdate t (.map (some b)) (enc k) v).run P w = .ok () { w with heap := w.heap.setIfInBounds b (mapO enc (aset l k v)) } := by
  have hb' := hb
  unfold mapO at hb
  simp only [Instr.mapUpdate, Sem.run_bind, run_underlying ht, Result.andThen_ok, run_getO hb, K.check, K.find]
  cases h : aget l k with
  | none =>
    obtain ⟨h1, h2⟩ := aget_none h v
    simp only [Option.map_none, run_setO hb, ents_push]
    rw [h1, mapO, List.length_append]
    rfl
  | some u =>
    obtain ⟨h1, h2⟩ := aget_some h v
    simp only [Option.map_some, Sem.run_bind]
    have hg : ((ents enc 0 l).toArray[apos l k]?.map (·.key)).getD (enc k) = enc k := by
      simp [ents_get, h1]
    rw [hg, run_keyStays K, Result.andThen_ok, run_setO hb]
    rw [ents_modify (apos l k) k u v h1 _ (fun j => rfl), h2, mapO, List.length_set]
theorem run_mapEntry (K : KeyT P kt enc) (ht : P.underlying t = some (.map kt e)) {z : Value} (hz : ∀ w, (zeroValue e).run P w = .ok z w) (hb : w.heap[b]? = some (mapO enc l)) (k : α) :
    (Instr.mapEntry t (.map (some b)) (enc k)).run P w = .ok (.tuple #[(aget l k).getD z, goInt (apos l k)]) { w with heap := w.heap.setIfInBounds b (mapO enc (aset l k ((aget l k).getD z))) } := by
  unfold mapO at hb
  simp only [Instr.mapEntry, Sem.run_bind, run_underlying ht, Result.andThen_ok, run_getO hb, K.check, K.find]
  cases h : aget l k with
  | none =>
    obtain ⟨h1, h2⟩ := aget_none h z
    simp only [Option.map_none, Sem.run_bind, hz, Result.andThen_ok, run_setO hb, ents_push, Sem.run_pure, Option.getD_none]
    rw [h1, h2, mapO, List.length_append]
    rfl
  | some u =>
    obtain ⟨h1, h2⟩ := aget_some h u
    simp only [Option.map_some, Sem.run_bind]
    have hg : ((ents enc 0 l).toArray[apos l k]?.map (·.key)).getD (enc k) = enc k := by
      simp [ents_get, h1]
    have hg2 : ((ents enc 0 l).toArray[apos l k]?.map (·.born)).getD 0 = apos l k := by
      simp [ents_get, h1]
    rw [hg, run_keyStays K, Result.andThen_ok, run_setO hb, Result.andThen_ok]
    rw [ents_modify (apos l k) k u u h1 _ (fun j => rfl), Option.getD_some, h2, mapO, List.length_set, Sem.run_pure]
    have hg3 : (ents enc 0 l).toArray[apos l k]? = some { key := enc k, val := u, born := apos l k } := by simp [ents_get, h1]
    rw [hg3]
    rfl
theorem run_entryStore (hb : w.heap[b]? = some (mapO enc l)) (k : α) {u : Value} (h : aget l k = some u) (v : Value) :
    (Instr.entryStore t (.map (some b)) (goInt (apos l k)) v).run P w = .ok () { w with heap := w.heap.setIfInBounds b (mapO enc (aset l k v)) } := by
  unfold mapO at hb
  obtain ⟨h1, h2⟩ := aget_some h v
  have hlt : apos l k < l.length := (List.getElem?_eq_some_iff.1 h1).1
  have hfi : (ents enc 0 l).toArray.findIdx? (fun x => (x.born : Int) == (apos l k : Nat)) = some (apos l k) := by
    rw [Array.findIdx?_eq_some_iff_getElem]
    have hsz : (ents enc 0 l).toArray.size = l.length := by simp [ents_length]
    have hbn : ∀ j (hj : j < (ents enc 0 l).toArray.size), ((ents enc 0 l).toArray[j]).born = j := by
      intro j hj
      have h3 := ents_get enc l 0 j
      have hj' : j < l.length := by rw [hsz] at hj; exact hj
      rw [List.getElem?_eq_getElem (by rw [ents_length]; exact hj'), List.getElem?_eq_getElem hj'] at h3
      simp only [Option.map_some, Option.some.injEq, Nat.zero_add] at h3
      rw [List.getElem_toArray, h3]
    refine ⟨by rw [hsz]; exact hlt, by rw [hbn]; simp, fun j hj => ?_⟩
    rw [hbn]
    simp; omega
  have hgi : (asInt (goInt (apos l k))).run P w = .ok ((apos l k : Nat) : Int) w := by simp [asInt, asIntOf, goInt]
  simp only [Instr.entryStore, Sem.run_bind, Result.andThen_ok, run_getO hb, hgi, hfi, run_setO hb, Sem.run_pure]
  rw [ents_modify (apos l k) k u v h1 _ (fun j => rfl), h2, mapO, List.length_set]
/-! ## A range over a map -/
def iterO (m c : Nat) (seen : List Nat) : Obj := .mapIter (some m) c seen.toArray c
theorem run_range (ht : P.underlying t = some (.map kt e)) (hb : w.heap[b]? = some (mapO enc l)) : (Instr.range t (.map (some b))).run P w = .ok (.pointer (some ⟨w.heap.size, 0, none⟩)) (w.alloc (iterO b l.length [])) := by
  unfold mapO at hb
  simp only [Instr.range, Sem.run_bind, run_underlying ht, Result.andThen_ok, run_getO hb, Sem.run_pure, run_newObj]
  rfl
theorem run_next_over {r m c : Nat} {seen : List Nat} (ty : TypeId) (hr : w.heap[r]? = some (iterO m c seen)) (hb : w.heap[m]? = some (mapO enc l)) (hc : c = l.length) (hs : ∀ i, i < l.length → i ∈ seen) :
    (Instr.next (.pointer (some ⟨r, 0, none⟩)) false ty).run P w = .ok (.tuple #[.bool false]) w := by
  subst hc
  unfold mapO at hb
  unfold iterO at hr
  have hrun : (getObj r).run P w = .ok (.mapIter (some m) l.length seen.toArray l.length) w := by simp [getObj, Sem.run, hr]
  have hbn : ∀ x ∈ (ents enc 0 l).toArray, x.born < l.length := by
    intro x hx
    obtain ⟨j, hj⟩ := List.mem_iff_getElem?.1 (List.mem_toArray.1 hx)
    rw [ents_get] at hj
    obtain ⟨p, hp, rfl⟩ := Option.map_eq_some_iff.1 hj
    have := (List.getElem?_eq_some_iff.1 hp).1
    simp; omega
  have htest : (!seen.toArray.isEmpty && !(ents enc 0 l).toArray.isEmpty && (ents enc 0 l).toArray.all (fun x => decide (x.born ≥ l.length))) = false :=
    next_test_false seen.toArray _ l.length l.length (fun x hx => hbn x (by simpa using hx)) (Nat.le_refl _)
  have hleft : (ents enc 0 l).toArray.filter (fun e => !seen.toArray.contains e.born) = #[] := by
    rw [Array.filter_eq_empty_iff]
    intro x hx
    have := hs x.born (hbn x hx)
    simpa using this
  simp only [Instr.next, Sem.run_bind, hrun, Result.andThen_ok, run_getO hb, htest, Bool.false_eq_true, if_false, hleft]
  simp [choose, Sem.run, Question.forced]
theorem run_next_step {r m c : Nat} {seen : List Nat} (ty : TypeId) (hr : w.heap[r]? = some (iterO m c seen)) (hb : w.heap[m]? = some (mapO enc l)) (hc : c = l.length) (hs : ¬ ∀ i, i < l.length → i ∈ seen) :
    ∃ i k v w1, l[i]? = some (k, v) ∧ i ∉ seen ∧ (w1 = w ∨ w1 = w.drew) ∧ (Instr.next (.pointer (some ⟨r, 0, none⟩)) false ty).run P w = .ok (.tuple #[.bool true, enc k, v]) { w1 with heap := w1.heap.setIfInBounds r (iterO m c (seen ++ [i])) } := by
  subst hc
  unfold mapO at hb
  unfold iterO at hr
  have hrun : (getObj r).run P w = .ok (.mapIter (some m) l.length seen.toArray l.length) w := by simp [getObj, Sem.run, hr]
  have hbn : ∀ x ∈ (ents enc 0 l).toArray, x.born < l.length := by
    intro x hx
    obtain ⟨j, hj⟩ := List.mem_iff_getElem?.1 (List.mem_toArray.1 hx)
    rw [ents_get] at hj
    obtain ⟨p, hp, rfl⟩ := Option.map_eq_some_iff.1 hj
    have := (List.getElem?_eq_some_iff.1 hp).1
    simp; omega
  have htest : (!seen.toArray.isEmpty && !(ents enc 0 l).toArray.isEmpty && (ents enc 0 l).toArray.all (fun x => decide (x.born ≥ l.length))) = false :=
    next_test_false seen.toArray _ l.length l.length (fun x hx => hbn x (by simpa using hx)) (Nat.le_refl _)
  simp only [Instr.next, Sem.run_bind, hrun, Result.andThen_ok, run_getO hb, htest, Bool.false_eq_true, if_false]
  have hmem : ∀ x ∈ (ents enc 0 l).toArray.filter (fun e => !seen.toArray.contains e.born), x.born < l.length ∧ x.born ∉ seen ∧ ∃ k v, l[x.born]? = some (k, v) ∧ x.key = enc k ∧ x.val = v := by
    intro x hx
    rw [Array.mem_filter] at hx
    obtain ⟨hx, hn⟩ := hx
    refine ⟨hbn x hx, by simpa using hn, ?_⟩
    obtain ⟨j, hj⟩ := List.mem_iff_getElem?.1 (List.mem_toArray.1 hx)
    rw [ents_get] at hj
    obtain ⟨p, hp, rfl⟩ := Option.map_eq_some_iff.1 hj
    exact ⟨p.1, p.2, by simpa using hp, rfl, rfl⟩
  have hne : (ents enc 0 l).toArray.filter (fun e => !seen.toArray.contains e.born) ≠ #[] := by
    intro he
    refine hs fun i hi => ?_
    rw [Array.filter_eq_empty_iff] at he
    have h1 : (ents enc 0 l)[i]? = some { key := enc l[i].1, val := l[i].2, born := i } := by rw [ents_get, List.getElem?_eq_getElem hi]; simp
    have := he _ (List.mem_toArray.2 (List.mem_of_getElem? h1))
    simpa using this
  generalize (ents enc 0 l).toArray.filter (fun e => !seen.toArray.contains e.born) = L at hmem hne ⊢
  have e1 : L.filter (fun x => decide (x.born < l.length)) = L := Array.filter_eq_self.2 (fun x hx => by simpa using (hmem x hx).1)
  have e2 : L.filter (fun x => decide (x.born ≥ l.length)) = #[] := by
    rw [Array.filter_eq_empty_iff]
    intro x hx
    have := (hmem x hx).1
    simp; omega
  have h0 : 0 < L.size := Nat.pos_of_ne_zero fun h => hne (Array.eq_empty_of_size_eq_zero h)
  have hie : L.isEmpty = false := by simp [Array.isEmpty]; omega
  simp only [e1, e2, Array.append_empty, hie, Bool.false_eq_true, if_false, Array.empty_append, Array.size_map]
  have hch : ∃ (j : Nat) (w1 : World), j < L.size ∧ (w1 = w ∨ w1 = w.drew) ∧ (choose (Question.mapNext L.size)).run P w = .ok j w1 := by
    by_cases hf : L.size ≤ 1
    · exact ⟨0, w, by omega, .inl rfl, by simp [choose, Sem.run, Question.forced, hf]⟩
    · exact ⟨_, w.drew, Nat.mod_lt _ (by omega), .inr rfl, by
        simp only [choose, Sem.run, Question.forced, decide_eq_true_eq, hf, if_false, Question.cut]
        rfl⟩
  obtain ⟨j, w1, hj, hw1, hrun1⟩ := hch
  obtain ⟨_, h2, k, v, h3, h4, h5⟩ := hmem L[j] (Array.getElem_mem hj)
  refine ⟨L[j].born, k, v, w1, h3, h2, hw1, ?_⟩
  have hr1 : w1.heap[r]? = some (.mapIter (some m) l.length seen.toArray l.length) := by rcases hw1 with rfl | rfl <;> exact hr
  have hset : (setObj r (.mapIter (some m) l.length (seen.toArray.push L[j].born) l.length)).run P w1 = .ok () { w1 with heap := w1.heap.setIfInBounds r (iterO m l.length (seen ++ [L[j].born])) } := by
    simp [setObj, Sem.run, hr1, iterO]
  simp only [hrun1, Result.andThen_ok, Array.getElem?_map, Array.getElem?_eq_getElem hj, Option.map_some, Sem.run_bind, hset, Sem.run_pure, h4, h5]
theorem run_entry {r m c i : Nat} {seen : List Nat} {k : α} {v : Value} (hr : w.heap[r]? = some (iterO m c (seen ++ [i]))) (hb : w.heap[m]? = some (mapO enc l)) (hc : c = l.length) (hi : l[i]? = some (k, v)) :
    (Instr.entry (.pointer (some ⟨r, 0, none⟩))).run P w = .ok (.tuple #[enc k, v]) w := by
  subst hc
  unfold mapO at hb
  unfold iterO at hr
  have hrun : (getObj r).run P w = .ok (.mapIter (some m) l.length (seen ++ [i]).toArray l.length) w := by simp [getObj, Sem.run, hr]
  have hback : (seen ++ [i]).toArray.back? = some i := by simp
  have hfind : (ents enc 0 l).toArray.find? (·.born == i) = some { key := enc k, val := v, born := i } := by
    have hm : ({ key := enc k, val := v, born := i } : MapEntry) ∈ ents enc 0 l := List.mem_of_getElem? (i := i) (by rw [ents_get, hi]; simp)
    have hn : ((ents enc 0 l).map (·.born)).Nodup := by
      have : (ents enc 0 l).map (·.born) = List.range l.length := by
        apply List.ext_getElem?
        intro j
        rw [List.getElem?_map, ents_get]
        by_cases hj : j < l.length
        · simp [hj]
        · simp [hj]
      rw [this]; exact List.nodup_range
    have := find_born _ (ents enc 0 l) hn hm
    simpa using this
  simp only [Instr.entry, Sem.run_bind, hrun, Result.andThen_ok, hback, run_getO hb, bne_self_eq_false, Bool.false_eq_true, if_false, hfind, Sem.run_pure]
end

/-! ## The operations as goals -/
section
variable {α : Type} [DecidableEq α] {enc : α → Value} {t kt e ty : TypeId} {s1 b1 : Nat} {z1 : Value} {w : World} {b : Nat} {l : List (α × Value)} {E : Env} {K : Value → World → Prop} {m x y : Operand}
theorem SemOp.skip {op : Op} {ty : TypeId} {E : Env} {w : World} {K : Value → World → Prop}
    (h : ∀ (ρ : Operand → Value) (o : Oper), (∀ x v, ev E x = some v → ρ x = v) → o.op = op → o.type = ty → ∃ w', (execOp ρ o).run P w = .ok .skip w' ∧ K undef w') : SemOp P op ty E w K :=
  ⟨fun ρ o hρ ho ht => .inr (h ρ o hρ ho ht)⟩
theorem sem_lookup (hτ : TOk P τ) (ht : tlook τ t = some ⟨.map kt e, s1, b1, z1⟩) {i : TI} (he : tlook τ e = some i) (KT : KeyT P kt enc) (hm : ev E m = some (.map (some b))) {k : α} (hx : ev E x = some (enc k)) (hb : w.heap[b]? = some (mapO enc l)) (ok : Bool)
    (hK : K (if ok then .tuple #[(aget l k).getD i.zero, .bool (aget l k).isSome] else (aget l k).getD i.zero) w) : SemOp P (.lookup t m x ok) ty E w K := by
  refine .of fun ρ o hρ hop hty => ⟨_, w, ?_, hK⟩
  unfold execOp
  rw [hop]
  simp only [Sem.run_bind, hρ _ _ hm, hρ _ _ hx, run_lookup KT (hτ _ _ ht).kind (hτ _ _ he).run_zero hb, Result.andThen_ok, Sem.run_pure]
theorem sem_update (hτ : TOk P τ) (ht : tlook τ t = some ⟨.map kt e, s1, b1, z1⟩) (KT : KeyT P kt enc) (hm : ev E m = some (.map (some b))) {k : α} (hx : ev E x = some (enc k)) {v : Value} (hy : ev E y = some v) (hb : w.heap[b]? = some (mapO enc l))
    (hK : ∀ w', SetO w b (mapO enc (aset l k v)) w' → K undef w') : SemOp P (.mapUpdate t m x y) ty E w K := by
  refine .skip fun ρ o hρ hop hty => ⟨_, ?_, hK _ ⟨rfl⟩⟩
  unfold execOp
  rw [hop]
  simp only [Sem.run_bind, hρ _ _ hm, hρ _ _ hx, hρ _ _ hy, run_mapUpdate KT (hτ _ _ ht).kind hb, Result.andThen_ok, Sem.run_pure]
theorem sem_insert (hτ : TOk P τ) (ht : tlook τ t = some ⟨.map kt e, s1, b1, z1⟩) (KT : KeyT P kt enc) (hm : ev E m = some (.map (some b))) {k : α} (hx : ev E x = some (enc k)) {v : Value} (hy : ev E y = some v) (hb : w.heap[b]? = some (mapO enc l))
    (hK : ∀ w', SetO w b (mapO enc (aset l k v)) w' → K undef w') : SemOp P (.insert t m x y) ty E w K := by
  refine .skip fun ρ o hρ hop hty => ⟨_, ?_, hK _ ⟨rfl⟩⟩
  unfold execOp
  rw [hop]
  simp only [Sem.run_bind, hρ _ _ hm, hρ _ _ hx, hρ _ _ hy, run_mapUpdate KT (hτ _ _ ht).kind hb, Result.andThen_ok, Sem.run_pure]
theorem sem_entry (hτ : TOk P τ) (ht : tlook τ t = some ⟨.map kt e, s1, b1, z1⟩) {i : TI} (he : tlook τ e = some i) (KT : KeyT P kt enc) (hm : ev E m = some (.map (some b))) {k : α} (hx : ev E x = some (enc k)) (hb : w.heap[b]? = some (mapO enc l))
    (hK : ∀ w', SetO w b (mapO enc (aset l k ((aget l k).getD i.zero))) w' → K (.tuple #[(aget l k).getD i.zero, .int .i64 (apos l k : Nat)]) w') : SemOp P (.mapEntry t m x) ty E w K := by
  refine .of fun ρ o hρ hop hty => ⟨_, _, ?_, hK _ ⟨rfl⟩⟩
  unfold execOp
  rw [hop]
  simp only [Sem.run_bind, hρ _ _ hm, hρ _ _ hx, run_mapEntry KT (hτ _ _ ht).kind (hτ _ _ he).run_zero hb, Result.andThen_ok, Sem.run_pure, goInt]
theorem sem_estore (hm : ev E m = some (.map (some b))) {k : α} (hx : ev E x = some (.int .i64 (apos l k : Nat))) {v u : Value} (hy : ev E y = some v) (hb : w.heap[b]? = some (mapO enc l)) (hu : aget l k = some u)
    (hK : ∀ w', SetO w b (mapO enc (aset l k v)) w' → K undef w') : SemOp P (.entryStore t m x y) ty E w K := by
  refine .skip fun ρ o hρ hop hty => ⟨_, ?_, hK _ ⟨rfl⟩⟩
  unfold execOp
  rw [hop]
  have := run_entryStore (P := P) (t := t) hb k hu v
  simp only [goInt] at this
  simp only [Sem.run_bind, hρ _ _ hm, hρ _ _ hx, hρ _ _ hy, this, Result.andThen_ok, Sem.run_pure]
theorem sem_len_map (hτ : TOk P τ) (ht : tlook τ t = some ⟨.map kt e, s1, b1, z1⟩) (hm : ev E m = some (.map (some b))) (hb : w.heap[b]? = some (mapO enc l)) (hK : K (.int .i64 (l.length : Nat)) w) :
    SemOp P (.call { callee := .builtin .len, args := #[m], argTypes := #[t] }) ty E w K := by
  refine .of fun ρ o hρ hop hty => ⟨_, w, ?_, hK⟩
  unfold mapO at hb
  have hu : P.underlying t = some (.map kt e) := (hτ _ _ ht).kind
  unfold execOp
  rw [hop]
  simp [resolve, invoke, builtin, Builtin.len_, run_underlying hu, hρ _ _ hm, run_getO hb, ents_length, goInt]
theorem sem_range (hτ : TOk P τ) (ht : tlook τ t = some ⟨.map kt e, s1, b1, z1⟩) (hm : ev E m = some (.map (some b))) (hb : w.heap[b]? = some (mapO enc l))
    (hK : ∀ r w', NewB w (iterO b l.length []) r w' → K (.pointer (some ⟨r, 0, none⟩)) w') : SemOp P (.range t m) ty E w K := by
  refine .of fun ρ o hρ hop hty => ⟨_, _, ?_, hK _ _ ⟨rfl, rfl⟩⟩
  unfold execOp
  rw [hop]
  simp only [Sem.run_bind, hρ _ _ hm, run_range (hτ _ _ ht).kind hb, Result.andThen_ok, Sem.run_pure]
theorem sem_next {r c : Nat} {seen : List Nat} (hm : ev E m = some (.pointer (some ⟨r, 0, none⟩))) (hr : w.heap[r]? = some (iterO b c seen)) (hb : w.heap[b]? = some (mapO enc l)) (hc : c = l.length)
    (hA : (∀ i, i < l.length → i ∈ seen) → K (.tuple #[.bool false]) w)
    (hB : ∀ i k v w', l[i]? = some (k, v) → i ∉ seen → Chg (fun a => a = r) w w' → w'.heap[r]? = some (iterO b c (seen ++ [i])) → w'.heap.size = w.heap.size → K (.tuple #[.bool true, enc k, v]) w') : SemOp P (.next m false) ty E w K := by
  refine .of fun ρ o hρ hop hty => ?_
  unfold execOp
  rw [hop]
  simp only [Sem.run_bind, hρ _ _ hm]
  by_cases hs : ∀ i, i < l.length → i ∈ seen
  · refine ⟨_, w, ?_, hA hs⟩
    simp only [run_next_over _ hr hb hc hs, Result.andThen_ok, Sem.run_pure]
  · obtain ⟨i, k, v, w1, h1, h2, hw1, hrun⟩ := run_next_step (P := P) o.type hr hb hc hs
    have hlt := (Array.getElem?_eq_some_iff.1 hr).1
    refine ⟨_, _, by simp only [hrun, Result.andThen_ok, Sem.run_pure]; rfl, hB i k v _ h1 h2 ?_ ?_ ?_⟩
    · have h3 : Chg (fun a => a = r) w w1 := by rcases hw1 with rfl | rfl; exact .refl _ _; exact .drew _ _
      exact h3.trans (SetO.chg ⟨rfl⟩ _ rfl)
    · have : w1.heap.size = w.heap.size := by rcases hw1 with rfl | rfl <;> rfl
      simp [this, hlt]
    · have : w1.heap.size = w.heap.size := by rcases hw1 with rfl | rfl <;> rfl
      simp [this]
theorem sem_entry_ {r c i : Nat} {seen : List Nat} {k : α} {v : Value} (hm : ev E m = some (.pointer (some ⟨r, 0, none⟩))) (hr : w.heap[r]? = some (iterO b c (seen ++ [i]))) (hb : w.heap[b]? = some (mapO enc l)) (hc : c = l.length) (hi : l[i]? = some (k, v))
    (hK : K (.tuple #[enc k, v]) w) : SemOp P (.entry m) ty E w K := by
  refine .of fun ρ o hρ hop hty => ⟨_, w, ?_, hK⟩
  unfold execOp
  rw [hop]
  simp only [Sem.run_bind, hρ _ _ hm, run_entry hr hb hc hi, Result.andThen_ok, Sem.run_pure]
end
end Go.Proofs.YtfeegacmmfgjfaaGreatDoorX

/-!  The framework, part F: elements that are told by their cells alone. -/
set_option linter.unusedVariables false
set_option linter.unusedSimpArgs false
namespace Go.Proofs.YtfeegacmmfgjfaaGreatDoorX
open Go Go.RowKit
variable {P : Program} {τ : TT} {n : Nat}
/-- Elements that are told by their cells alone. -/
structure Flat {α : Type} (k : Kd α) (enc : α → List Value) : Prop where
  rep : ∀ S w x cs, k.rep S w x cs ↔ cs = enc x
abbrev kTok : Kd (List UInt8 × List UInt8) := kPair kStr kStr
abbrev kCnt : Kd (List UInt8 × List UInt8 × Int) := kPair kStr (kPair kStr (kInt .i64))
def eTok (x : List UInt8 × List UInt8) : List Value := [.string (str x.1), .string (str x.2)]
def eCnt (x : List UInt8 × List UInt8 × Int) : List Value := [.string (str x.1), .string (str x.2.1), .int .i64 x.2.2]
theorem kStr_flat : Flat kStr (fun l => [.string (str l)]) := ⟨fun _ _ _ _ => Iff.rfl⟩
theorem kInt_flat (ik : IntKind) : Flat (kInt ik) (fun n => [.int ik n]) := ⟨fun _ _ _ _ => Iff.rfl⟩
theorem kTok_flat : Flat kTok eTok := ⟨fun S w x cs => by
  constructor
  · rintro ⟨a, b, rfl, rfl, rfl⟩; rfl
  · rintro rfl; exact ⟨_, _, rfl, rfl, rfl⟩⟩
theorem kCnt_flat : Flat kCnt eCnt := ⟨fun S w x cs => by
  constructor
  · rintro ⟨a, b, rfl, rfl, ⟨c, d, rfl, rfl, rfl⟩⟩; rfl
  · rintro rfl; exact ⟨_, _, rfl, rfl, ⟨_, _, rfl, rfl, rfl⟩⟩⟩
section
variable {α : Type} {k : Kd α} {enc : α → List Value} {e : TypeId}
theorem Flat.len (hF : Flat k enc) (x : α) : (enc x).length = k.nc := k.len (S := No) (w := default) ((hF.rep _ _ _ _).2 rfl)
theorem Flat.css (hF : Flat k enc) {S : Nat → Prop} {w : World} {xs : List α} {css : List (List Value)} (hl : css.length = xs.length) (hr : ∀ (j : Nat) (x : α) (cs : List Value), xs[j]? = some x → css[j]? = some cs → k.rep S w x cs) : css = xs.map enc := by
  apply List.ext_getElem (by simp [hl])
  intro i hi1 hi2
  have := hr i xs[i] css[i] (List.getElem?_eq_getElem (by omega)) (List.getElem?_eq_getElem hi1)
  rw [hF.rep] at this
  rw [this]; simp
theorem Flat.out (hF : Flat k enc) {w0 w : World} {A : Option Addr} {n c : Nat} {xs : List α} (h : Fresh k e w0 w (.slice A n c) xs) :
    (A = none ∧ n = 0 ∧ c = 0 ∧ xs = []) ∨ ∃ g cur, A = some ⟨g, 0, none⟩ ∧ n = xs.length ∧ w0.heap.size ≤ g ∧ w.heap[g]? = some (.cells cur e (0, 0)) ∧ n ≤ c ∧ c ≤ maxLen ∧ cur.size = c * k.nc ∧ cur.toList.take (n * k.nc) = (xs.map enc).flatten := by
  obtain ⟨S, ⟨css, hl, ho, hr, hS2⟩, hS⟩ := h.own
  have hc := hF.css hl (S := fun b => S b ∧ (Value.slice A n c).ownBlock ≠ some b) hr
  rcases ho.2 with ⟨he, h2⟩ | ⟨g, cap, cur, he, _, hh, hnc, hcm, hsz, htk⟩
  · cases he; exact .inl ⟨rfl, rfl, rfl, List.eq_nil_of_length_eq_zero h2⟩
  · cases he
    exact .inr ⟨g, cur, rfl, rfl, hS g (hS2 g rfl), hh, hnc, hcm, hsz, by rw [htk, hc]⟩
theorem Flat.in_ (hF : Flat k enc) {w0 w : World} {g c : Nat} {cur : Array Value} {xs : List α} (hE : Ext w0 w) (hg : w0.heap.size ≤ g) (hh : w.heap[g]? = some (.cells cur e (0, 0))) (hc : xs.length ≤ c) (hm : c ≤ maxLen) (hs : cur.size = c * k.nc) (ht : cur.toList.take (xs.length * k.nc) = (xs.map enc).flatten) :
    Fresh k e w0 w (.slice (some ⟨g, 0, none⟩) xs.length c) xs := by
  refine ⟨⟨fun b => w0.heap.size ≤ b, ⟨xs.map enc, by simp, ?_, ?_, ?_⟩, fun _ h => h⟩, hE⟩
  · refine ⟨?_, .inr ⟨g, c, cur, rfl, Nat.zero_le _, hh, hc, hm, hs, ht⟩⟩
    have h1 : ∀ l : List α, ((l.map enc).flatten).length = l.length * k.nc := by
      intro l
      induction l with
      | nil => simp
      | cons x r ih => simp only [List.map_cons, List.flatten_cons, List.length_append, ih, hF.len, List.length_cons, Nat.succ_mul]; omega
    exact h1 xs
  · intro j x cs hx hcs
    rw [hF.rep]
    rw [List.getElem?_map, hx] at hcs
    exact (Option.some.inj hcs).symm
  · intro b hb
    simp only [Value.ownBlock, Option.some.injEq] at hb
    subst hb; exact hg
theorem Flat.own1 (hF : Flat k enc) {w0 w : World} {v : Value} {xs : List α} (h : Fresh k e w0 w v xs) : Own k e (fun b => v.ownBlock = some b) w v xs := by
  obtain ⟨S, ho, hS⟩ := h.own
  obtain ⟨css, hl, hrow, hr, hS2⟩ := ho
  refine ⟨css, hl, hrow, fun j x cs hx hc => ?_, fun b hb => hb⟩
  have := hr j x cs hx hc
  rw [hF.rep] at this ⊢
  exact this
theorem Fresh.newB {w0 w : World} {v : Value} {xs : List α} (h : Fresh k e w0 w v xs) {b : Nat} (hb : v.ownBlock = some b) : w0.heap.size ≤ b ∧ b < w.heap.size := by
  obtain ⟨S, ho, hS⟩ := h.own
  have hlt := ho.lt hb
  obtain ⟨css, hl, hrow, hr, hS2⟩ := ho
  exact ⟨hS b (hS2 b hb), hlt⟩
/-- A row of one's own reads from its own block alone. -/
theorem Flat.read1 (hF : Flat k enc) {w0 w : World} {v : Value} {xs : List α} (h : Fresh k e w0 w v xs) : SlR k (fun b => v.ownBlock = some b) w v xs := (hF.own1 h).read
theorem Flat.stay (hF : Flat k enc) {w0 w w' : World} {v : Value} {xs : List α} {M : Nat → Prop} (h : Fresh k e w0 w v xs) (hc : Chg M w w') (hm : ∀ b, M b → w0.heap.size ≤ b) (hv : ∀ b, v.ownBlock = some b → ¬ M b) : Fresh k e w0 w' v xs := by
  obtain ⟨A, c, rfl, h1, h2⟩ := h.shape
  have hE : Ext w0 w' := h.ext.then hc fun i hi hM => by have := hm i hM; omega
  rcases hF.out h with ⟨rfl, _, rfl, rfl⟩ | ⟨g, cur, rfl, _, hg, hh, hnc, hcm, hsz, htk⟩
  · exact .nil k e hE
  · exact hF.in_ hE hg (by rw [hc.block g (Array.getElem?_eq_some_iff.1 hh).1 (hv g rfl)]; exact hh) hnc hcm hsz htk
/-- append(v, x), told of by what it leaves. -/
theorem Flat.app (hF : Flat k enc) (hτ : TOk P τ) {t ty : TypeId} {s1 b1 : Nat} {z1 : Value} {td : TD} {bytes : Nat} {z : Value} (ht : tlook τ t = some ⟨.slice e, s1, b1, z1⟩) (he : tlook τ e = some ⟨td, k.nc, bytes, z⟩) (hz : (cellsOf z).length = k.nc)
    {w0 w w2 : World} {v : Value} {xs : List α} {x : α} {cs : List Value} {b : Nat} {E : Env} {K : Value → World → Prop} {s y : Operand} (hs : ev E s = some v) (hy : ev E y = some (.slice (some ⟨b, 0, none⟩) 1 1))
    (hw : NewB w (.cells cs.toArray e) b w2) (ho : Fresh k e w0 w v xs) (hx : cs = enc x) (hb : (xs.length + 1) * bytes ≤ 140737488355328) (hb2 : xs.length + 1 ≤ 140737488355328)
    (hK : ∀ v' w', Fresh k e w0 w' v' (xs ++ [x]) → Chg (fun i => v.ownBlock = some i) w w' → (∀ i, v'.ownBlock = some i → v.ownBlock = some i ∨ w.heap.size ≤ i) → K v' w') :
    SemOp P (.call { callee := .builtin .append, args := #[s, y], argTypes := #[t, t] }) ty E w2 K := by
  refine app_one hτ ht he hz hs hy hw (hF.own1 ho) (S' := No) ((hF.rep _ _ _ _).2 hx) (fun _ _ h => h) hb hb2 fun v' w' h2 h3 => ?_
  have hS : ∀ i, v'.ownBlock = some i → v.ownBlock = some i ∨ w.heap.size ≤ i := fun i hi => by
    obtain ⟨css, _, _, _, hS2⟩ := h2
    rcases hS2 i hi with ⟨h | h, _⟩ | h
    · exact .inl h
    · exact h.elim
    · exact .inr h
  refine hK v' w' ⟨⟨_, h2, fun i hi => ?_⟩, ho.ext.then h3 fun i hi hm => ?_⟩ h3 hS
  · have := ho.ext.size
    rcases hi with ⟨hi | hi, _⟩ | hi
    · exact (ho.newB hi).1
    · exact hi.elim
    · omega
  · have := (ho.newB hm).1; omega
/-- append(v, u...), told of by what it leaves. -/
theorem Flat.app_all (hF : Flat k enc) (hτ : TOk P τ) {t ty : TypeId} {s1 b1 : Nat} {z1 : Value} {td : TD} {bytes : Nat} {z : Value} (ht : tlook τ t = some ⟨.slice e, s1, b1, z1⟩) (he : tlook τ e = some ⟨td, k.nc, bytes, z⟩) (hz : (cellsOf z).length = k.nc)
    {S' : Nat → Prop} {w0 w : World} {v u : Value} {xs ys : List α} {E : Env} {K : Value → World → Prop} {s y : Operand} (hs : ev E s = some v) (hy : ev E y = some u)
    (ho : Fresh k e w0 w v xs) (hr : SlR k S' w u ys) (hd : ∀ b, v.ownBlock = some b → ¬ S' b) (hb : (xs.length + ys.length) * bytes ≤ 140737488355328) (hb2 : xs.length + ys.length ≤ 140737488355328)
    (hK : ∀ v' w', Fresh k e w0 w' v' (xs ++ ys) → Chg (fun i => v.ownBlock = some i) w w' → (∀ i, v'.ownBlock = some i → v.ownBlock = some i ∨ w.heap.size ≤ i) → K v' w') :
    SemOp P (.call { callee := .builtin .append, args := #[s, y], argTypes := #[t, t] }) ty E w K := by
  refine .of fun ρ o hρ hop hty => ?_
  obtain ⟨v', w', hrun, h2, h3, h4⟩ := run_app (P := P) hτ (ty := o.type) ht he hz (hF.own1 ho) hr hd hb hb2
  have hE : Ext w0 w' := ho.ext.then h3 fun i hi hm => by have := (ho.newB hm).1; omega
  have hsz := ho.ext.size
  have hS : ∀ i, v'.ownBlock = some i → w0.heap.size ≤ i := fun i hi => by
    rcases h4 i hi with h | h
    · exact (ho.newB h).1
    · omega
  refine ⟨v', w', ?_, hK v' w' ⟨⟨fun i => v'.ownBlock = some i, ?_, hS⟩, hE⟩ h3 fun i hi => (h4 i hi).imp id fun h => by omega⟩
  · unfold execOp
    rw [hop]
    simp only [resolve, Sem.run_bind, Sem.run_pure, Result.andThen_ok, invoke, builtin, List.map_toArray, List.map_cons, List.map_nil, hρ s v hs, hρ y u hy, hrun]
  · obtain ⟨css, hl, hrow, hr, hS2⟩ := h2
    refine ⟨css, hl, hrow, fun j x cs hx hc => ?_, fun b hb => hb⟩
    have := hr j x cs hx hc
    rw [hF.rep] at this ⊢
    exact this
/-- append(nil, make([]T, m)...), cut to none: room of its own. -/
theorem run_app_room (hτ : TOk P τ) {t ti ty : TypeId} {s1 b1 s2 b2 : Nat} {z1 z2 : Value} {td : TD} {bytes : Nat} {z : Value} (ht : tlook τ t = some ⟨.slice e, s1, b1, z1⟩) (hti : tlook τ ti = some ⟨.int .i64, s2, b2, z2⟩) (he : tlook τ e = some ⟨td, k.nc, bytes, z⟩) (hz : (cellsOf z).length = k.nc)
    {w : World} {m : Nat} (h0 : 0 < m) (hm : m ≤ 140737488355328) (hb : m * bytes ≤ 140737488355328) :
    ∃ c w', (Builtin.append_ #[t, ti] ty #[.slice none 0 0, .int .i64 m]).run P w = .ok (.slice (some ⟨w.heap.size, 0, none⟩) m c) w' ∧ m ≤ c ∧ Fresh k e w w' (.slice (some ⟨w.heap.size, 0, none⟩) 0 c) [] := by
  have hu : P.underlying t = some (.slice e) := (hτ _ _ ht).kind
  have hui : P.underlying ti = some (.int .i64) := (hτ _ _ hti).kind
  obtain ⟨i, hi, hiz, his, hib⟩ := (hτ _ _ he).info
  have hzs : z.cells.size = k.nc := by rw [← toArray_cells]; simpa using hz
  have hge := grownCap_ge w m 0 e
  have hcm := grownCap_le_maxLen w m 0 e (by simp only [maxLen]; omega)
  have w1 : IntKind.i64.wrap (m : Int) = m := wrap_i64 (by omega)
  have his' : i.size = k.nc := his
  have hib' : i.bytes = bytes := hib
  have hiz' : i.zero = some z := hiz
  have hb3 : ¬ (281474976710656 < (m : Int) * (i.bytes : Int)) := by
    have : ((m * i.bytes : Nat) : Int) = (m : Int) * i.bytes := Int.natCast_mul _ _
    rw [← this, hib']
    omega
  have hb4 : ¬ (281474976710656 < Builtin.nextslicecap m 0 * i.bytes) := by
    rw [nextslicecap_zero h0, hib']; omega
  have hasnt : ¬ ((m : Int) < 0) := by omega
  have hm0 : m ≠ 0 := by omega
  have hmn : k.nc ≠ 0 := by have := k.pos; omega
  have h63 : ¬ (9223372036854775807 < (m : Int)) := by omega
  refine ⟨grownCap w m 0 e, w.drew.alloc (.cells (Builtin.zeroCells z.cells m ++ Builtin.zeroCells z.cells (grownCap w m 0 e - m)) e), ?_, hge, ?_⟩
  · simp [Builtin.append_, run_underlying hu, run_underlying hui, sizeOf, typeInfo, zeroValue, hi, hiz', his', asInt, asIntOf, w1, hasnt, hb3, hb4, hm0, hmn, h63, Question.forced, run_firstCells_none, newRow, grownCap]
    exact fun h => absurd h (Nat.mul_ne_zero hm0 hmn)
  · have hh : (w.drew.alloc (.cells (Builtin.zeroCells z.cells m ++ Builtin.zeroCells z.cells (grownCap w m 0 e - m)) e)).heap[w.heap.size]? = some (.cells (Builtin.zeroCells z.cells m ++ Builtin.zeroCells z.cells (grownCap w m 0 e - m)) e (0, 0)) := heap_alloc_new w.drew _
    refine ⟨⟨fun b => w.heap.size ≤ b, ⟨[], rfl, ⟨by simp, .inr ⟨w.heap.size, _, _, rfl, Nat.zero_le _, hh, Nat.zero_le _, hcm, ?_, by simp⟩⟩, fun j x cs hx => by simp at hx, fun b hb => ?_⟩, fun _ h => h⟩, (Chg.drew No w).trans (NewB.chg ⟨rfl, rfl⟩ _)⟩
    · simp only [Array.size_append, size_zeroCells, hzs, ← Nat.add_mul]
      congr 1
      omega
    · simp only [Value.ownBlock, Option.some.injEq] at hb
      omega
theorem sem_app_room (hτ : TOk P τ) {t ti ty : TypeId} {s1 b1 s2 b2 : Nat} {z1 z2 : Value} {td : TD} {bytes : Nat} {z : Value} (ht : tlook τ t = some ⟨.slice e, s1, b1, z1⟩) (hti : tlook τ ti = some ⟨.int .i64, s2, b2, z2⟩) (he : tlook τ e = some ⟨td, k.nc, bytes, z⟩) (hz : (cellsOf z).length = k.nc)
    {w : World} {m : Nat} {E : Env} {K : Value → World → Prop} {s y : Operand} (hs : ev E s = some (.slice none 0 0)) (hy : ev E y = some (.int .i64 m)) (h0 : 0 < m) (hm : m ≤ 140737488355328) (hb : m * bytes ≤ 140737488355328)
    (hK : ∀ g c w', m ≤ c → Fresh k e w w' (.slice (some ⟨g, 0, none⟩) 0 c) [] → K (.slice (some ⟨g, 0, none⟩) m c) w') :
    SemOp P (.call { callee := .builtin .append, args := #[s, y], argTypes := #[t, ti] }) ty E w K := by
  refine .of fun ρ o hρ hop hty => ?_
  obtain ⟨c, w', hrun, h1, h2⟩ := run_app_room (P := P) (k := k) hτ (ty := o.type) ht hti he hz h0 hm hb
  refine ⟨_, w', ?_, hK _ c w' h1 h2⟩
  unfold execOp
  rw [hop]
  simp only [resolve, Sem.run_bind, Sem.run_pure, Result.andThen_ok, invoke, builtin, List.map_toArray, List.map_cons, List.map_nil, hρ s _ hs, hρ y _ hy, hrun]
/-- A slice of one's own, whose memory was made since w0. -/
def Held {α : Type} (k : Kd α) (e : TypeId) (w0 w : World) (v : Value) (xs : List α) : Prop := ∃ S, Own k e S w v xs ∧ ∀ b, S b → w0.heap.size ≤ b
end
section
variable {α : Type} {k : Kd α} {e : TypeId}
theorem Fresh.held {w0 w : World} {v : Value} {xs : List α} (h : Fresh k e w0 w v xs) : Held k e w0 w v xs := h.own
theorem Held.nil (k : Kd α) (e : TypeId) (w0 w : World) : Held k e w0 w (.slice none 0 0) [] := ⟨No, Own.nil k e No w, fun _ h => h.elim⟩
theorem Held.keep {w0 w w' : World} {M : Nat → Prop} {v : Value} {xs : List α} (h : Held k e w0 w v xs) (hc : Chg M w w') (hM : ∀ b, M b → b < w0.heap.size) : Held k e w0 w' v xs := by
  obtain ⟨S, ho, hS⟩ := h
  exact ⟨S, ho.chg hc fun b hb _ hm => by have := hS b hb; have := hM b hm; omega, hS⟩
theorem Held.ext {w0 w w' : World} {v : Value} {xs : List α} (h : Held k e w0 w v xs) (hc : Ext w w') : Held k e w0 w' v xs := h.keep hc fun _ h => h.elim
theorem Held.back {w0 w1 w : World} {v : Value} {xs : List α} (h : Held k e w1 w v xs) (hs : w0.heap.size ≤ w1.heap.size) : Held k e w0 w v xs := by
  obtain ⟨S, ho, hS⟩ := h
  exact ⟨S, ho, fun b hb => Nat.le_trans hs (hS b hb)⟩
theorem Held.fresh {w0 w : World} {v : Value} {xs : List α} (h : Held k e w0 w v xs) (hE : Ext w0 w) : Fresh k e w0 w v xs := ⟨h, hE⟩
theorem Held.read {w0 w : World} {v : Value} {xs : List α} (h : Held k e w0 w v xs) : SlR k (New w0) w v xs := by
  obtain ⟨S, ho, hS⟩ := h; exact ho.read.mono fun b hb _ => hS b hb
theorem Held.newB {w0 w : World} {v : Value} {xs : List α} (h : Held k e w0 w v xs) {b : Nat} (hb : v.ownBlock = some b) : w0.heap.size ≤ b ∧ b < w.heap.size := by
  obtain ⟨S, ho, hS⟩ := h
  have hlt := ho.lt hb
  obtain ⟨css, hl, hrow, hr, hS2⟩ := ho
  exact ⟨hS b (hS2 b hb), hlt⟩
theorem Held.shape {w0 w : World} {v : Value} {xs : List α} (h : Held k e w0 w v xs) : ∃ A c, v = .slice A xs.length c ∧ xs.length ≤ c ∧ c ≤ 9223372036854775807 := h.read.shape
/-- The same, the world taken as its own beginning. -/
theorem Held.now {w0 w : World} {v : Value} {xs : List α} (h : Held k e w0 w v xs) : ∃ wz : World, Fresh k e wz w v xs := by
  obtain ⟨S, ho, hS⟩ := h
  refine ⟨{ w with heap := #[] }, ⟨S, ho, fun b hb => Nat.zero_le _⟩, ⟨rfl, rfl, rfl, Nat.zero_le _, fun b hb => absurd hb (Nat.not_lt_zero b)⟩⟩
/-- append(v, r), r a slice whose block is none of v's. -/
theorem Held.app_sl {α : Type} {k : Kd α} {e : TypeId} (hτ : TOk P τ) {t te ty : TypeId} {s1 b1 : Nat} {z1 : Value} {td : TD} {bytes : Nat} {z : Value} (ht : tlook τ t = some ⟨.slice te, s1, b1, z1⟩) (he : tlook τ te = some ⟨td, (kSl k).nc, bytes, z⟩) (hz : (cellsOf z).length = (kSl k).nc)
    {S' : Nat → Prop} {w0 w w2 : World} {v r : Value} {xss : List (List α)} {row : List α} {b : Nat} {E : Env} {K : Value → World → Prop} {s y : Operand} (hs : ev E s = some v) (hy : ev E y = some (.slice (some ⟨b, 0, none⟩) 1 1))
    (hw : NewB w (.cells #[r] te) b w2) (ho : Held (kSl k) te w0 w v xss) (hr : SlR k S' w r row) (hS' : ∀ b, S' b → w0.heap.size ≤ b ∧ v.ownBlock ≠ some b) (h0 : w0.heap.size ≤ w.heap.size) (hb : (xss.length + 1) * bytes ≤ 140737488355328) (hb2 : xss.length + 1 ≤ 140737488355328)
    (hK : ∀ v' w', Held (kSl k) te w0 w' v' (xss ++ [row]) → Chg (fun i => v.ownBlock = some i) w w' → K v' w') :
    SemOp P (.call { callee := .builtin .append, args := #[s, y], argTypes := #[t, t] }) ty E w2 K := by
  obtain ⟨S, h1, hS⟩ := ho
  refine app_one hτ ht he hz hs hy hw h1 (S' := S') (x := row) ⟨r, rfl, hr⟩ (fun b hb h => (hS' b h).2 hb) hb hb2 fun v' w' h2 h3 => hK v' w' ⟨_, h2, fun i hi => ?_⟩ h3
  rcases hi with ⟨hi | hi, _⟩ | hi
  · exact hS i hi
  · exact (hS' i hi).1
  · omega
end
end Go.Proofs.YtfeegacmmfgjfaaGreatDoorX
