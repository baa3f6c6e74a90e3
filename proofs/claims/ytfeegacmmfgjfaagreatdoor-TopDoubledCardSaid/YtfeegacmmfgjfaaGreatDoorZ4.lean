/- Parts of the proof: Package rat: the quotient. Package rat: the quotient is the number. Package rat: Cmp. No condition ahead of any statement but its own. -/
import Derived.Test.YtfeegacmmfgjfaaGreatDoorZ3
import Derived.Test.YtfeegacmmfgjfaaGreatDoorZ1
import Derived.Test.YtfeegacmmfgjfaaGreatDoorZ2
import Derived.Tactics
import Derived.Tactics2
import Derived.Recover
import Derived.Laws.Pointers
set_option maxHeartbeats 4000000
/-!  Package rat: the quotient. -/
set_option linter.unusedVariables false
set_option maxRecDepth 10000
namespace Go.Proofs.YtfeegacmmfgjfaaGreatDoorX
open Go Go.RowKit Go.Proofs Go.Proofs.YtfeegacmmfgjfaaGreatDoorM

/-- The quotient's struct, before anything is known of it as a number. -/
theorem div1 (p q : Rat) (w : World) (hL : Laid w) (hp : (dd p.num.natAbs).length ≤ 200 ∧ (dd p.den).length ≤ 200) (hq0 : q.num ≠ 0) (hq : (dd q.num.natAbs).length ≤ 200 ∧ (dd q.den).length ≤ 200) :
    Ret Tryz.prog 91 #[ratV p, ratV q] w fun v w' => v = numV (bnot (beqb (decide (p.num < 0)) (decide (q.num < 0))) && !decide (p.num.natAbs * q.den = 0)) (dd (p.num.natAbs * q.den / Nat.gcd (p.num.natAbs * q.den) (p.den * q.num.natAbs))) (dd (p.den * q.num.natAbs / Nat.gcd (p.num.natAbs * q.den) (p.den * q.num.natAbs))) ∧ Ext w w' := by
  refine fn_ret tok Tryz.func91 (by kernel_rfl) rfl rfl ?_
  (conv => whnf)
  intro b1 w1 hw1
  (conv => whnf)
  intro b2 w2 hw2
  (conv => whnf)
  intro b3 w3 hw3
  have hb1 := (hw3.chg No).blk ((hw2.chg No).blk hw1.blk (fun h => h)) (fun h => h)
  have hb2 := (hw3.chg No).blk hw2.blk (fun h => h)
  have hb3 := hw3.blk
  have hE : Ext w w3 := ((hw1.chg No).trans (hw2.chg No)).trans (hw3.chg No)
  have hn3 : w.heap.size ≤ b3 := by rw [hw3.hb]; exact ((hw1.chg No).trans (hw2.chg No)).size
  have hne1 : b1 ≠ b3 := by have := hw1.hb; have := hw3.hb; have := hw1.size; have := hw2.size; omega
  have hne2 : b2 ≠ b3 := by have := hw2.hb; have := hw3.hb; have := hw2.size; omega
  have hdp := p.den_nz
  have hdq := q.den_nz
  (conv => whnf)
  refine draw_held tok mixed (fun w' => w'.heap[b1]? = some (.cells (cellsOf (ratV p)).toArray 92 (0, 0)) ∧ w'.heap[b2]? = some (.cells (cellsOf (ratV q)).toArray 92 (0, 0)))
    (ones [0, 1, 2, 3, 4, 5, 6, 7, 8, 13, 14, 15, 16] (.alt 9 (ones [10, 11] (.alt 12 (.alt 17 (ones [18, 19] (.alt 20 (.alt 21 (.alt 22 .done .nil) .nil) .nil)) .nil) .nil)) .nil)) (by decide +kernel) (by decide +kernel) ⟨hb1, hb2⟩ ?_
  (conv => whnf)
  refine ⟨_, fun w' h => (by rw [addr_add, cell_of_blk h.1]; rfl), ?_⟩
  (conv => whnf)
  refine ⟨_, fun w' h => (by rw [addr_add, cell_of_blk h.2]; rfl), ?_⟩
  (conv => whnf)
  refine ⟨_, fun w' h => (by rw [addr_add, cell_of_blk h.1]; rfl), ?_⟩
  (conv => whnf)
  refine ⟨_, fun w' h => (by rw [addr_add, cell_of_blk h.2]; rfl), ?_⟩
  (conv => whnf)
  refine ⟨_, fun w' h => (by rw [addr_add, cell_of_blk h.1]; rfl), ?_⟩
  (conv => whnf)
  refine ⟨_, fun w' h => (by rw [addr_add, cell_of_blk h.2]; rfl), ?_⟩
  (conv => whnf)
  refine ⟨?_, trivial⟩
  have hL3 := (hL.ext hE).ext (Chg.drew No w3)
  have hE3 := hE.trans (Chg.drew No w3)
  refine (nat_Mul_ok p.num.natAbs q.den _ hL3 200 200 hp.1 hq.2 (by omega)).call ?_
  rintro _ w4 ⟨rfl, hE4⟩
  have hb1 := hE4.blk (w := w3.drew) hb1 (fun h => h)
  have hb2 := hE4.blk (w := w3.drew) hb2 (fun h => h)
  have hb3 := hE4.blk (w := w3.drew) hb3 (fun h => h)
  have hL4 := hL3.ext hE4
  have hE4 := hE3.trans hE4
  (conv => whnf)
  refine ⟨⟨hb1, hb2⟩, ?_⟩
  (conv => whnf)
  refine ⟨?_, trivial⟩
  refine (must_ok _ w4).call ?_
  rintro _ w4 ⟨rfl, rfl⟩
  (conv => whnf)
  refine ⟨⟨hb1, hb2⟩, ?_⟩
  (conv => whnf)
  refine ⟨?_, trivial⟩
  refine (nat_Mul_ok p.den q.num.natAbs _ hL4 200 200 hp.2 hq.1 (by omega)).call ?_
  rintro _ w5 ⟨rfl, hE5⟩
  have hb1 := hE5.blk hb1 (fun h => h)
  have hb2 := hE5.blk hb2 (fun h => h)
  have hb3 := hE5.blk hb3 (fun h => h)
  have hL5 := hL4.ext hE5
  have hE5 := hE4.trans hE5
  (conv => whnf)
  refine ⟨⟨hb1, hb2⟩, ?_⟩
  (conv => whnf)
  refine ⟨?_, trivial⟩
  refine (must_ok _ w5).call ?_
  rintro _ w5 ⟨rfl, rfl⟩
  (conv => whnf)
  refine ⟨⟨hb1, hb2⟩, ?_⟩
  (conv => whnf)
  refine ⟨?_, trivial⟩
  refine (reduce _ (p.num.natAbs * q.den) (p.den * q.num.natAbs) w5 hL5 (Nat.mul_ne_zero hdp (by omega)) (Nat.le_trans (dd_mul hp.1 hq.2) (by omega)) (Nat.le_trans (dd_mul hp.2 hq.1) (by omega))).call ?_
  rintro _ w6 ⟨rfl, hE6⟩
  have hb1 := hE6.blk hb1 (fun h => h)
  have hb2 := hE6.blk hb2 (fun h => h)
  have hb3 := hE6.blk hb3 (fun h => h)
  have hE6 := hE5.trans hE6
  (conv => whnf)
  refine ⟨⟨hb1, hb2⟩, ?_⟩
  (conv => whnf)
  refine ⟨?_, trivial⟩
  generalize (bnot (beqb (decide (p.num < 0)) (decide (q.num < 0))) && !decide (p.num.natAbs * q.den = 0)) = sg
  generalize dd (p.num.natAbs * q.den / Nat.gcd (p.num.natAbs * q.den) (p.den * q.num.natAbs)) = dn
  generalize dd (p.den * q.num.natAbs / Nat.gcd (p.num.natAbs * q.den) (p.den * q.num.natAbs)) = dm
  obtain ⟨w7, hr7, hb7, hC7⟩ := store_blk (P := Tryz.prog) (vs := [.bool sg, .string (str dn), .string (str dm)]) hb3 rfl (by intro v hv; simp at hv; rcases hv with rfl | rfl | rfl <;> rfl)
  (conv => whnf)
  refine ⟨rfl, w7, hr7, ⟨hC7.blk hb1 hne1, hC7.blk hb2 hne2⟩, ?_⟩
  (conv => whnf)
  refine ⟨_, rfl, cellsAt_blk hb7, ?_⟩
  exact ⟨rfl, hE6.then hC7 fun i hi hm => by omega⟩
end Go.Proofs.YtfeegacmmfgjfaaGreatDoorX

/-!  Package rat: the quotient is the number. -/
set_option linter.unusedVariables false
namespace Go.Proofs.YtfeegacmmfgjfaaGreatDoorX
open Go Go.RowKit Go.Proofs Go.Proofs.YtfeegacmmfgjfaaGreatDoorM
def dz (p q : Rat) : Int := if q.num < 0 then -(p.num * q.den) else p.num * q.den
theorem div_norm (p q : Rat) (hq : q.num ≠ 0) (hd : p.den * q.num.natAbs ≠ 0) : Rat.normalize (dz p q) (p.den * q.num.natAbs) hd = p / q := by
  rw [Rat.div_def, Rat.inv_def]
  conv => rhs; lhs; rw [← Rat.num_divInt_den p]
  rw [Rat.divInt_mul_divInt, Rat.normalize_eq_mkRat, ← Rat.divInt_ofNat]
  unfold dz
  by_cases h : q.num < 0
  · rw [if_pos h]
    have e : (((p.den * q.num.natAbs : Nat)) : Int) = -((p.den : Int) * q.num) := by
      rw [Int.natCast_mul, ← Int.mul_neg]
      congr 1; omega
    rw [e, Rat.neg_divInt_neg]
  · rw [if_neg h]
    have e : (((p.den * q.num.natAbs : Nat)) : Int) = (p.den : Int) * q.num := by
      rw [Int.natCast_mul]
      congr 1; omega
    rw [e]
theorem div1_ (p q : Rat) (w : World) (hL : Laid w) (hp : (dd p.num.natAbs).length ≤ 200 ∧ (dd p.den).length ≤ 200) (hq0 : q.num ≠ 0) (hq : (dd q.num.natAbs).length ≤ 200 ∧ (dd q.den).length ≤ 200) :
    Ret Tryz.prog 91 #[ratV p, ratV q] w fun v w' => v = ratV (p / q) ∧ Ext w w' := by
  have h := div1 p q w hL hp hq0 hq
  have hdn : p.den * q.num.natAbs ≠ 0 := Nat.mul_ne_zero p.den_nz (by omega)
  rw [ratV_norm _ _ _ hdn (dz p q) ?_ ?_, div_norm p q hq0 hdn] at h
  · exact h
  · unfold dz
    split
    · rw [Int.natAbs_neg, Int.natAbs_mul]; rfl
    · rw [Int.natAbs_mul]; rfl
  · intro hne
    have hd := q.den_nz
    have hd2 : (0 : Int) < q.den := by omega
    have hp0 : p.num ≠ 0 := by
      intro e
      apply hne
      unfold dz
      rw [e, Int.zero_mul]; split <;> rfl
    unfold beqb dz
    rw [bnot_eq]
    by_cases h1 : p.num < 0 <;> by_cases h2 : q.num < 0
    · rw [decide_eq_true h1, decide_eq_true h2, if_pos h2, decide_eq_false (by have := Int.mul_neg_of_neg_of_pos h1 hd2; omega)]; rfl
    · rw [decide_eq_true h1, decide_eq_false h2, if_neg h2, decide_eq_true (Int.mul_neg_of_neg_of_pos h1 hd2)]; rfl
    · rw [decide_eq_false h1, decide_eq_true h2, if_pos h2, decide_eq_true (by have := Int.mul_pos (show 0 < p.num by omega) hd2; omega)]; rfl
    · rw [decide_eq_false h1, decide_eq_false h2, if_neg h2, decide_eq_false (by have := Int.mul_pos (show 0 < p.num by omega) hd2; omega)]; rfl
end Go.Proofs.YtfeegacmmfgjfaaGreatDoorX

/-!  Package rat: Cmp. -/
set_option linter.unusedVariables false
set_option maxRecDepth 10000
namespace Go.Proofs.YtfeegacmmfgjfaaGreatDoorX
open Go Go.RowKit Go.Proofs Go.Proofs.YtfeegacmmfgjfaaGreatDoorM

def qz (p q : Rat) : Int := p.num * q.den - q.num * p.den
theorem sI_not (p : Rat) (k : Nat) : sI (bnot (decide (p.num < 0))) (p.num.natAbs * k) = -(p.num * k) := by
  rw [← sI_num, bnot_eq]
  unfold sI
  cases decide (p.num < 0) <;> simp
theorem rat_Cmp (p q : Rat) (w : World) (hL : Laid w) (hp : (dd p.num.natAbs).length ≤ 190 ∧ (dd p.den).length ≤ 190) (hq : (dd q.num.natAbs).length ≤ 190 ∧ (dd q.den).length ≤ 190) :
    Ret Tryz.prog 20 #[.string (str (qtxt p)), .string (str (qtxt q))] w fun v w' => v = .int .i64 (if qz p q = 0 then 0 else if qz p q < 0 then -1 else 1) ∧ Ext w w' := by
  refine fn_ret tok Tryz.func20 (by kernel_rfl) rfl rfl ?_
  (conv => whnf)
  refine (parse_q p w hL ⟨by omega, by omega⟩).call ?_
  rintro _ w1 ⟨rfl, hE1⟩
  (conv => whnf)
  intro b1 w2 hw2
  obtain ⟨w3, hr3, hb1, hC3⟩ := store_blk (P := Tryz.prog) (vs := [.bool (decide (p.num < 0)), .string (str (dd p.num.natAbs)), .string (str (dd p.den))]) hw2.blk rfl (by intro v hv; simp at hv; rcases hv with rfl | rfl | rfl <;> rfl)
  have hn1 : w.heap.size ≤ b1 := by rw [hw2.hb]; exact hE1.size
  have hE3 : Ext w w3 := (hE1.trans (hw2.chg No)).then hC3 fun i hi hm => by omega
  (conv => whnf)
  refine ⟨rfl, w3, hr3, ?_⟩
  (conv => whnf)
  refine (parse_q q w3 (hL.ext hE3) ⟨by omega, by omega⟩).call ?_
  rintro _ w4 ⟨rfl, hE4⟩
  have hb1 := hE4.blk hb1 (fun h => h)
  have hE4 := hE3.trans hE4
  (conv => whnf)
  intro b2 w5 hw5
  obtain ⟨w6, hr6, hb2, hC6⟩ := store_blk (P := Tryz.prog) (vs := [.bool (decide (q.num < 0)), .string (str (dd q.num.natAbs)), .string (str (dd q.den))]) hw5.blk rfl (by intro v hv; simp at hv; rcases hv with rfl | rfl | rfl <;> rfl)
  have hn2 : w.heap.size ≤ b2 := by rw [hw5.hb]; exact hE4.size
  have hne : b1 ≠ b2 := by have := (Array.getElem?_eq_some_iff.1 hb1).1; have := hw5.hb; omega
  have hb1 := hC6.blk ((hw5.chg No).blk hb1 (fun h => h)) hne
  have hE : Ext w w6 := (hE4.trans (hw5.chg No)).then hC6 fun i hi hm => by omega
  (conv => whnf)
  refine ⟨rfl, w6, hr6, ?_⟩
  (conv => whnf)
  refine draw_held tok mixed (fun w' => w'.heap[b1]? = some (.cells (cellsOf (ratV p)).toArray 92 (0, 0)) ∧ w'.heap[b2]? = some (.cells (cellsOf (ratV q)).toArray 92 (0, 0)))
    (ones [0, 1, 2, 3, 4, 5, 10, 11, 12, 13, 14, 15, 16] (.alt 6 (ones [7, 8] (.alt 9 (.alt 17 (ones [18, 19] (.alt 20 (.alt 21 (ones [22, 23, 24, 25, 26] .done) .nil) .nil)) .nil) .nil)) .nil)) (by decide +kernel) (by decide +kernel) ⟨hb1, hb2⟩ ?_
  (conv => whnf)
  refine ⟨_, fun w' h => (by rw [addr_add, cell_of_blk h.1]; rfl), ?_⟩
  (conv => whnf)
  refine ⟨_, fun w' h => (by rw [addr_add, cell_of_blk h.1]; rfl), ?_⟩
  (conv => whnf)
  refine ⟨_, fun w' h => (by rw [addr_add, cell_of_blk h.2]; rfl), ?_⟩
  (conv => whnf)
  refine ⟨_, fun w' h => (by rw [addr_add, cell_of_blk h.2]; rfl), ?_⟩
  (conv => whnf)
  refine ⟨_, fun w' h => (by rw [addr_add, cell_of_blk h.2]; rfl), ?_⟩
  (conv => whnf)
  refine ⟨_, fun w' h => (by rw [addr_add, cell_of_blk h.1]; rfl), ?_⟩
  (conv => whnf)
  refine ⟨?_, trivial⟩
  have hL3 := (hL.ext hE).ext (Chg.drew No w6)
  have hE3 := hE.trans (Chg.drew No w6)
  refine (nat_Mul_ok p.num.natAbs q.den _ hL3 190 190 hp.1 hq.2 (by omega)).call ?_
  rintro _ w7 ⟨rfl, hE7⟩
  have hb1 := hE7.blk (w := w6.drew) hb1 (fun h => h)
  have hb2 := hE7.blk (w := w6.drew) hb2 (fun h => h)
  have hL7 := hL3.ext hE7
  have hE7 := hE3.trans hE7
  (conv => whnf)
  refine ⟨⟨hb1, hb2⟩, ?_⟩
  (conv => whnf)
  refine ⟨?_, trivial⟩
  refine (must_ok _ w7).call ?_
  rintro _ w7 ⟨rfl, rfl⟩
  (conv => whnf)
  refine ⟨⟨hb1, hb2⟩, ?_⟩
  (conv => whnf)
  refine ⟨?_, trivial⟩
  refine (nat_Mul_ok q.num.natAbs p.den _ hL7 190 190 hq.1 hp.2 (by omega)).call ?_
  rintro _ w8 ⟨rfl, hE8⟩
  have hb1 := hE8.blk hb1 (fun h => h)
  have hb2 := hE8.blk hb2 (fun h => h)
  have hL8 := hL7.ext hE8
  have hE8 := hE7.trans hE8
  (conv => whnf)
  refine ⟨⟨hb1, hb2⟩, ?_⟩
  (conv => whnf)
  refine ⟨?_, trivial⟩
  refine (must_ok _ w8).call ?_
  rintro _ w8 ⟨rfl, rfl⟩
  (conv => whnf)
  refine ⟨⟨hb1, hb2⟩, ?_⟩
  (conv => whnf)
  refine ⟨?_, trivial⟩
  have hl1 : (dd (p.num.natAbs * q.den)).length ≤ 380 := dd_mul hp.1 hq.2
  have hl2 : (dd (q.num.natAbs * p.den)).length ≤ 380 := dd_mul hq.1 hp.2
  refine (plus _ _ (p.num.natAbs * q.den) (q.num.natAbs * p.den) w8 hL8 (by omega) (by omega)).call ?_
  rw [sI_num, sI_not]
  rintro _ w9 ⟨hE9, sg, rfl, hsg⟩
  have hb1 := hE9.blk hb1 (fun h => h)
  have hb2 := hE9.blk hb2 (fun h => h)
  have hE9 := hE8.trans hE9
  have ez : p.num * (q.den : Int) + -(q.num * (p.den : Int)) = qz p q := rfl
  rw [ez] at hsg ⊢
  (conv => whnf)
  refine ⟨⟨hb1, hb2⟩, ?_⟩
  (conv => whnf)
  refine condP_str (b := [48]) (fun h => ?_) (fun h => ?_)
  · have h0 : qz p q = 0 := Int.natAbs_eq_zero.1 (dd_inj (h.trans dd_zero.symm))
    (conv => whnf)
    exact ⟨by rw [if_pos h0], hE9⟩
  · have h0 : qz p q ≠ 0 := fun e => h (by rw [e]; exact dd_zero)
    rw [hsg h0]
    (conv => whnf)
    by_cases hlt : qz p q < 0
    · rw [decide_eq_true hlt]
      (conv => whnf)
      exact ⟨by rw [if_neg h0, if_pos hlt], hE9⟩
    · rw [decide_eq_false hlt]
      (conv => whnf)
      exact ⟨by rw [if_neg h0, if_neg hlt], hE9⟩
end Go.Proofs.YtfeegacmmfgjfaaGreatDoorX

/-!  Package rat: the closure that compute hands on. -/
set_option linter.unusedVariables false
set_option maxRecDepth 10000
namespace Go.Proofs.YtfeegacmmfgjfaaGreatDoorX
open Go Go.RowKit Go.Proofs Go.Proofs.YtfeegacmmfgjfaaGreatDoorM

/-- f(x, y), of a function f that takes the two numbers to r. -/
theorem compute1 (g : Nat) (p q r : Rat) (b0 b1 b2 : Nat) (w : World) (h0 : w.heap[b0]? = some (.cells #[.func (.func g) #[] #[]] 131 (0, 0))) (h1 : w.heap[b1]? = some (.cells (cellsOf (ratV p)).toArray 92 (0, 0))) (h2 : w.heap[b2]? = some (.cells (cellsOf (ratV q)).toArray 92 (0, 0)))
    (hg : ∀ w', Ext w w' → Ret Tryz.prog g #[ratV p, ratV q] w' fun v w'' => v = ratV r ∧ Ext w' w'') :
    Ret Tryz.prog 131 #[.pointer (some ⟨b0, 0, none⟩), .pointer (some ⟨b1, 0, none⟩), .pointer (some ⟨b2, 0, none⟩)] w fun v w' => v = ratV r ∧ Ext w w' := by
  refine fn_ret tok Tryz.func131 (by kernel_rfl) rfl rfl ?_
  (conv => whnf)
  intro b3 w3 hw3
  have hE3 : Ext w w3 := hw3.chg _
  have hn3 : w.heap.size ≤ b3 := by rw [hw3.hb]; exact Nat.le_refl _
  have c0 : w3.cell? ⟨b0, 0, none⟩ = some (.func (.func g) #[] #[]) := by rw [cell_of_blk (hE3.blk h0 (fun h => h))]; rfl
  (conv => whnf)
  refine ⟨_, c0, ?_⟩
  (conv => whnf)
  refine ⟨_, rfl, cellsAt_blk (hE3.blk h1 (fun h => h)), ?_⟩
  (conv => whnf)
  refine ⟨_, rfl, cellsAt_blk (hE3.blk h2 (fun h => h)), ?_⟩
  (conv => whnf)
  refine (hg w3 hE3).call ?_
  rintro _ w4 ⟨rfl, hE4⟩
  obtain ⟨w5, hr5, hb5, hC5⟩ := store_blk (P := Tryz.prog) (vs := [.bool (decide (r.num < 0)), .string (str (dd r.num.natAbs)), .string (str (dd r.den))]) (hE4.blk hw3.blk (fun h => h)) rfl (by intro v hv; simp at hv; rcases hv with rfl | rfl | rfl <;> rfl)
  (conv => whnf)
  refine ⟨rfl, w5, hr5, ?_⟩
  (conv => whnf)
  refine ⟨_, rfl, cellsAt_blk hb5, ?_⟩
  exact ⟨rfl, (hE3.trans hE4).then hC5 fun i hi hm => by omega⟩
theorem run_assert_nil (w : World) : (Instr.typeAssert .nilIface 20 121 true).run Tryz.prog w = .ok (.tuple #[.agg #[], .bool false]) w := by
  simp [Instr.typeAssert, go_sem]
end Go.Proofs.YtfeegacmmfgjfaaGreatDoorX

/-!  The framework, part E: a function that defers one call and returns. -/
set_option linter.unusedVariables false
namespace Go.Proofs.YtfeegacmmfgjfaaGreatDoorX
open Go
variable {P : Program} {τ : TT}
/-- The deferred call, made as the function returns. -/
structure DeferP (P : Program) (d : Deferred) (w : World) (R : World → Prop) : Prop where
  out : ∃ fv ca g args, d.target = .fn fv ca ∧ (invoke d.target d.args).run P w = .ok (.enter g args) w ∧ CallsD P g args .returning w fun e u' w' => (∃ v, e = .returned v) ∧ u' = .returning ∧ R w'
theorem CallsD.mono' {f : FuncId} {args : Array Value} {u : FrameMode} {w : World} {R R' : Ending → FrameMode → World → Prop} (h : CallsD P f args u w R) (hr : ∀ e u' w', R e u' w' → R' e u' w') : CallsD P f args u w R' := by
  intro c cs hc
  obtain ⟨e, u', w', fr, hR, h1, h2, h3⟩ := h c cs hc
  exact ⟨e, u', w', fr, hr _ _ _ hR, h1, h2, h3⟩
theorem DeferP.of {g : FuncId} {fn : Func} {ca vs : Array Value} {w : World} {R R' : World → Prop} (hf : P.funcs[g]? = some fn) (hn : (fn.name == "runtime.NumGoroutine") = false) (hb : fn.body.isNone = false)
    (h : CallsD P g (vs ++ ca) .returning w fun e u' w' => (∃ v, e = .returned v) ∧ u' = .returning ∧ R w') (hr : ∀ w', R w' → R' w') : DeferP P { target := .fn (.func g) ca, args := vs } w R' := by
  refine ⟨_, _, g, vs ++ ca, rfl, ?_, CallsD.mono' h fun e u' w' h => ⟨h.1, h.2.1, hr _ h.2.2⟩⟩
  have hprog : (program).run P w = .ok P w := rfl
  simp only [invoke, callFunc, Sem.run_bind, hprog, Result.andThen_ok, hf, hn, hb, Bool.false_eq_true, if_false, Sem.run_pure]
def deferQ (P : Program) (τ : TT) (rs : List ResultVar) (R : Value → World → Prop) : XQ
  | .normal, [d], E, w => DeferP P d w fun w' => resP P τ E w' rs (packP R w')
  | .ret, [d], E, w => DeferP P d w fun w' => resP P τ E w' rs (packP R w')
  | _, _, _, _ => False
theorem defer_leaves (hτ : TOk P τ) {n : Nat} {E : Env} {tmps : Array Value} (hf : Fits n E tmps) {fn : Func} {R : Value → World → Prop} {d : Deferred} {w : World} (h : DeferP P d w fun w' => resP P τ E w' fn.results.toList (packP R w')) :
    Leaves P fn tmps (fun e w' => ∃ v, e = .returned v ∧ R v w') [d] .returning w := by
  obtain ⟨fv, ca, g, args, h1, h2, h3⟩ := h
  refine ⟨by simp, fv, ca, g, args, h1, h2, CallsD.mono' h3 ?_⟩
  rintro _ _ w' ⟨⟨v, rfl⟩, rfl, hr⟩
  obtain ⟨v, hr, hR⟩ := results_run hτ hf hr
  exact ⟨v, hr, v, rfl, hR⟩
theorem fn_defer (hτ : TOk P τ) {f : FuncId} {fn : Func} {c : Code} {args : Array Value} {w : World} {R : Value → World → Prop} (hf : P.funcs[f]? = some fn) (hname : (fn.name == "runtime.NumGoroutine") = false)
    (hb : fn.body = some c) (ha : Nat.ble args.size fn.ntmps = true) (h : xcode P τ fn.ntmps c (deferQ P τ fn.results.toList R) [] (envOf 0 args.toList) w) : Ret P f args w R := by
  refine ⟨⟨fn, hf, hname, by rw [hb]; rfl⟩, calls_of_wp_defers hf hb ?_⟩
  refine wp_mono (xcode_sound hτ c _ [] _ w h _ (envOf_fits (Nat.le_of_ble_eq_true ha)) rfl) ?_
  rintro e a2 w2 ⟨E2, hf2, h2⟩
  cases hd : a2.defers with
  | nil => rw [hd] at h2; cases e <;> exact h2.elim
  | cons d ds =>
  cases ds with
  | cons d' ds => rw [hd] at h2; cases e <;> exact h2.elim
  | nil =>
  rw [hd] at h2
  cases e with
  | normal => show Leaves _ _ _ _ a2.defers _ _; rw [hd]; exact defer_leaves hτ (hf2.resolve_right id) h2
  | ret => show Leaves _ _ _ _ a2.defers _ _; rw [hd]; exact defer_leaves hτ (hf2.resolve_right id) h2
  | panic c => exact h2.elim
  | exit id => exact h2.elim
  | goto l => exact h2.elim
  | outgrown => exact h2.elim
end Go.Proofs.YtfeegacmmfgjfaaGreatDoorX

/-!  Package rat: the deferred closure where nothing panics. -/
set_option linter.unusedVariables false
set_option maxRecDepth 10000
namespace Go.Proofs.YtfeegacmmfgjfaaGreatDoorX
open Go Go.RowKit Go.Proofs Go.Proofs.YtfeegacmmfgjfaaGreatDoorM
theorem store_none (w : World) (b : Nat) : (storeVar 121 ⟨b, 0, none⟩ (.agg #[])).run Tryz.prog w = .ok () w := by
  simp [storeVar, Value.cells, storeCells, (ti121.run_sizeOf w)]
set_option maxHeartbeats 1000000 in
theorem written1 (p q : Addr) (w : World) :
    CallsD Tryz.prog 157 #[.pointer (some p), .pointer (some q)] .returning w fun e u' w' => (∃ v, e = .returned v) ∧ u' = .returning ∧ Ext w w' := by
  refine callsD_of_wpS Tryz.func157 rfl fun c₀ cs hu => ?_
  apply wpS_seq
  apply wpS_region
  simp [wpOpsS, go_sem, recoverD, hu, Tryz.ntmps157, Exit.thenS, run_assert_nil]
  apply wpS_seq
  apply wpS_region
  simp [wpOpsS, go_sem, Exit.thenS]
  refine wpS_cond (t := false) (by simp [Act.eval]) ?_
  refine wpS_of_wp (wp_skip ?_)
  refine ⟨rfl, .returning, ?_, .tuple #[], ?_, ⟨_, rfl⟩, rfl, NewB.chg ⟨rfl, rfl⟩ _⟩
  · cases c₀; cases hu; rfl
  · simp [results, Tryz.f157]
/-- written(f), of a closure that gives the number r. -/
theorem written (a b c : Addr) (r : Rat) (hr : Short r) (w : World) (h : ∀ w', Ext w w' → Ret Tryz.prog 131 #[.pointer (some a), .pointer (some b), .pointer (some c)] w' fun v w'' => v = ratV r ∧ Ext w' w'') :
    Ret Tryz.prog 130 #[.func (.func 131) #[] #[.pointer (some a), .pointer (some b), .pointer (some c)]] w fun v w' => v = .tuple #[.string (str (qtxt r)), .int .i64 0] ∧ Ext w w' := by
  refine fn_defer tok Tryz.func130 (by kernel_rfl) rfl rfl ?_
  (conv => whnf)
  intro b2 w2 hw2
  (conv => whnf)
  intro b3 w3 hw3
  (conv => whnf)
  have hE3 : Ext w w3 := (hw2.chg No).trans (hw3.chg No)
  refine (h w3 hE3).call ?_
  rintro _ w4 ⟨rfl, hE4⟩
  (conv => whnf)
  refine (text r w4 hr).call ?_
  rintro _ w5 ⟨rfl, hE5⟩
  have hE35 : Ext w3 w5 := hE4.trans hE5
  have hb2 := hE35.blk ((hw3.chg No).blk hw2.blk (fun h => h)) (fun h => h)
  have hb3 := hE35.blk hw3.blk (fun h => h)
  have hlt2 : w.heap.size ≤ b2 := by rw [hw2.hb]; exact Nat.le_refl _
  have hlt3 : w.heap.size ≤ b3 := by rw [hw3.hb]; exact (hw2.chg No).size
  have hne : b2 ≠ b3 := by have := hw2.hb; have := hw3.hb; have := hw2.size; omega
  (conv => whnf)
  refine ⟨rfl, trivial, ⟨_, by rw [cell_of_blk hb2]; rfl, frozen_of_blk hb2 0⟩, fun w6 hw6 => ?_⟩
  have hb2' := hw6.hw ▸ set_blk hb2 0 (.string (str (qtxt r)))
  have hC6 : Chg (fun k => k = b2) w5 w6 := hw6.chg _ rfl
  have hb3' := hC6.blk hb3 (fun e => hne e.symm)
  (conv => whnf)
  refine ⟨rfl, trivial, ⟨_, by rw [cell_of_blk hb3']; rfl, frozen_of_blk hb3' 0⟩, fun w7 hw7 => ?_⟩
  have hb3'' := hw7.hw ▸ set_blk hb3' 0 (.int .i64 0)
  have hC7 : Chg (fun k => k = b3) w6 w7 := hw7.chg _ rfl
  have hb2'' := hC7.blk hb2' (fun e => hne e)
  (conv => whnf)
  refine DeferP.of (Tryz.func157) (by kernel_rfl) rfl (written1 ⟨b2, 0, none⟩ ⟨b3, 0, none⟩ w7) fun w8 hE8 => ?_
  (conv => whnf)
  refine ⟨_, by rw [cell_of_blk (hE8.blk hb2'' (fun h => h))]; rfl, ?_⟩
  (conv => whnf)
  refine ⟨_, by rw [cell_of_blk (hE8.blk hb3'' (fun h => h))]; rfl, ?_⟩
  (conv => whnf)
  refine ⟨rfl, ?_⟩
  have hE5' : Ext w w5 := hE3.trans hE35
  exact ((hE5'.then hC6 fun i hi hm => by omega).then hC7 fun i hi hm => by omega).trans hE8
end Go.Proofs.YtfeegacmmfgjfaaGreatDoorX

/-!  Package rat: Mul, Add, Div. -/
set_option linter.unusedVariables false
set_option maxRecDepth 10000
namespace Go.Proofs.YtfeegacmmfgjfaaGreatDoorX
open Go Go.RowKit Go.Proofs Go.Proofs.YtfeegacmmfgjfaaGreatDoorM
theorem compute (g : Nat) (p q r : Rat) (w : World) (hL : Laid w) (hp : Short p) (hq : Short q) (hr : Short r) (hg : ∀ w', Ext w w' → Ret Tryz.prog g #[ratV p, ratV q] w' fun v w'' => v = ratV r ∧ Ext w' w'') :
    Ret Tryz.prog 86 #[.string (str (qtxt p)), .string (str (qtxt q)), .func (.func g) #[] #[]] w fun v w' => v = .tuple #[.string (str (qtxt r)), .int .i64 0] ∧ Ext w w' := by
  refine fn_ret tok Tryz.func86 (by kernel_rfl) rfl rfl ?_
  (conv => whnf)
  intro b5 w1 hw1
  (conv => whnf)
  have hE1 : Ext w w1 := hw1.chg _
  refine (parse_q p w1 (hL.ext hE1) hp).call ?_
  rintro _ w2 ⟨rfl, hE2⟩
  (conv => whnf)
  intro b8 w3 hw3
  have hE3 : Ext w2 w3 := hw3.chg _
  obtain ⟨w4, hr4, hb4, hC4⟩ := store_blk (P := Tryz.prog) (vs := [.bool (decide (p.num < 0)), .string (str (dd p.num.natAbs)), .string (str (dd p.den))]) hw3.blk rfl (by intro v hv; simp at hv; rcases hv with rfl | rfl | rfl <;> rfl)
  (conv => whnf)
  refine ⟨rfl, w4, hr4, ?_⟩
  (conv => whnf)
  have hl8 : w2.heap.size ≤ b8 := by rw [hw3.hb]; exact Nat.le_refl _
  have hE4 : Ext w2 w4 := hE3.then hC4 fun i hi hm => by omega
  have hE14 : Ext w1 w4 := hE2.trans hE4
  refine (parse_q q w4 (hL.ext (hE1.trans hE14)) hq).call ?_
  rintro _ w5 ⟨rfl, hE5⟩
  (conv => whnf)
  intro b10 w6 hw6
  have hE6 : Ext w5 w6 := hw6.chg _
  obtain ⟨w7, hr7, hb7, hC7⟩ := store_blk (P := Tryz.prog) (vs := [.bool (decide (q.num < 0)), .string (str (dd q.num.natAbs)), .string (str (dd q.den))]) hw6.blk rfl (by intro v hv; simp at hv; rcases hv with rfl | rfl | rfl <;> rfl)
  (conv => whnf)
  refine ⟨rfl, w7, hr7, ?_⟩
  have hl10 : w5.heap.size ≤ b10 := by rw [hw6.hb]; exact Nat.le_refl _
  have hE7 : Ext w5 w7 := hE6.then hC7 fun i hi hm => by omega
  have hE47 : Ext w4 w7 := hE5.trans hE7
  have hE17 : Ext w1 w7 := hE14.trans hE47
  (conv => whnf)
  have hb5 := hE17.blk hw1.blk (fun h => h)
  have hb8 := hE47.blk hb4 (fun h => h)
  have hE : Ext w w7 := hE1.trans hE17
  refine (written ⟨b5, 0, none⟩ ⟨b8, 0, none⟩ ⟨b10, 0, none⟩ r hr w7 fun w8 hE8 => compute1 g p q r b5 b8 b10 w8 (hE8.blk hb5 (fun h => h)) (hE8.blk hb8 (fun h => h)) (hE8.blk hb7 (fun h => h)) fun w9 hE9 => hg w9 ((hE.trans hE8).trans hE9)).call ?_
  rintro _ w8 ⟨rfl, hE8⟩
  (conv => whnf)
  exact ⟨rfl, hE.trans hE8⟩
theorem rat_Mul (p q : Rat) (w : World) (hL : Laid w) (hp : Dg 190 p) (hq : Dg 190 q) :
    Ret Tryz.prog 48 #[.string (str (qtxt p)), .string (str (qtxt q))] w fun v w' => v = .tuple #[.string (str (qtxt (p * q))), .int .i64 0] ∧ Ext w w' := by
  refine fn_ret tok Tryz.func48 (by kernel_rfl) rfl rfl ?_
  (conv => whnf)
  refine (compute 87 p q (p * q) w hL (hp.short (by omega)) (hq.short (by omega)) ((hp.mul hq).short (by omega)) fun w' hE => mul1_ p q w' (hL.ext hE) ⟨Nat.le_trans hp.1 (by omega), Nat.le_trans hp.2 (by omega)⟩ ⟨Nat.le_trans hq.1 (by omega), Nat.le_trans hq.2 (by omega)⟩).call ?_
  rintro _ w8 ⟨rfl, hE8⟩
  (conv => whnf)
  exact ⟨rfl, hE8⟩
theorem rat_Add (p q : Rat) (w : World) (hL : Laid w) (hp : Dg 190 p) (hq : Dg 190 q) :
    Ret Tryz.prog 50 #[.string (str (qtxt p)), .string (str (qtxt q))] w fun v w' => v = .tuple #[.string (str (qtxt (p + q))), .int .i64 0] ∧ Ext w w' := by
  refine fn_ret tok Tryz.func50 (by kernel_rfl) rfl rfl ?_
  (conv => whnf)
  refine (compute 90 p q (p + q) w hL (hp.short (by omega)) (hq.short (by omega)) ((hp.add hq).short (by omega)) fun w' hE => add1 p q w' (hL.ext hE) ⟨hp.1, hp.2⟩ ⟨hq.1, hq.2⟩).call ?_
  rintro _ w8 ⟨rfl, hE8⟩
  (conv => whnf)
  exact ⟨rfl, hE8⟩
theorem qtxt_zero {q : Rat} (h : q ≠ 0) : qtxt q ≠ [48] := fun e => h (qtxt_inj (e.trans qtxt_zero_.symm))
theorem rat_Div (p q : Rat) (w : World) (hL : Laid w) (hp : Dg 190 p) (hq : Dg 190 q) (h0 : q ≠ 0) :
    Ret Tryz.prog 51 #[.string (str (qtxt p)), .string (str (qtxt q))] w fun v w' => v = .tuple #[.string (str (qtxt (p / q))), .int .i64 0] ∧ Ext w w' := by
  have hn : q.num ≠ 0 := fun e => h0 (Rat.num_eq_zero.1 e)
  refine fn_ret tok Tryz.func51 (by kernel_rfl) rfl rfl ?_
  (conv => whnf)
  have hl := qtxt_len p (hp.short (by omega))
  refine (rat_Valid (qtxt p) w hL (by omega)).call ?_
  rintro v w1 ⟨hE1, h⟩
  obtain ⟨p', _, _, rfl⟩ | ⟨h, _⟩ := h
  case inr => exact absurd rfl (h p (hp.short (by omega)))
  (conv => whnf)
  refine condP_str (b := [48]) (fun e => absurd e (qtxt_zero h0)) fun _ => ?_
  (conv => whnf)
  refine (compute 91 p q (p / q) w1 (hL.ext hE1) (hp.short (by omega)) (hq.short (by omega)) ((hp.div hq hn).short (by omega)) fun w' hE => div1_ p q w' (hL.ext (hE1.trans hE)) ⟨Nat.le_trans hp.1 (by omega), Nat.le_trans hp.2 (by omega)⟩ hn ⟨Nat.le_trans hq.1 (by omega), Nat.le_trans hq.2 (by omega)⟩).call ?_
  rintro _ w8 ⟨rfl, hE8⟩
  (conv => whnf)
  exact ⟨rfl, hE1.trans hE8⟩
end Go.Proofs.YtfeegacmmfgjfaaGreatDoorX

/-!  Package counts: tables. -/
set_option linter.unusedVariables false
set_option maxRecDepth 10000
namespace Go.Proofs.YtfeegacmmfgjfaaGreatDoorX
open Go Go.RowKit Go.Proofs Go.Proofs.YtfeegacmmfgjfaaGreatDoorM
def tabN (ys : List Cnt) : List (K × Int) := ys.foldl (fun m c => setI m (key c) c.2.2) []
def tabS (ys : List Cnt) : List (Str × Int) := ys.foldl (fun m c => bump m c.1 c.2.2) []
theorem tabN_snoc (ys : List Cnt) (c : Cnt) : tabN (ys ++ [c]) = setI (tabN ys) (key c) c.2.2 := by simp [tabN]
theorem tabS_snoc (ys : List Cnt) (c : Cnt) : tabS (ys ++ [c]) = bump (tabS ys) c.1 c.2.2 := by simp [tabS]
theorem snoc_ind {α : Type} {p : List α → Prop} (h0 : p []) (h1 : ∀ l x, p l → p (l ++ [x])) (l : List α) : p l := by
  have : ∀ l : List α, p l.reverse := by
    intro l
    induction l with
    | nil => exact h0
    | cons x r ih => rw [List.reverse_cons]; exact h1 _ _ ih
  have h2 := this l.reverse
  rwa [List.reverse_reverse] at h2
theorem tabS_le {M : Int} (hM : 0 ≤ M) (ys : List Cnt) : (∀ c ∈ ys, 0 ≤ c.2.2 ∧ c.2.2 ≤ M) → ∀ a, 0 ≤ getI (tabS ys) a ∧ getI (tabS ys) a ≤ M * ys.length := by
  refine snoc_ind (p := fun ys => (∀ c ∈ ys, 0 ≤ c.2.2 ∧ c.2.2 ≤ M) → ∀ a, 0 ≤ getI (tabS ys) a ∧ getI (tabS ys) a ≤ M * ys.length) ?_ ?_ ys
  · intro _ a; exact ⟨Int.le_refl _, by simp [tabS, getI]⟩
  · intro l x ih h a
    have h1 := ih (fun c hc => h c (by simp [hc]))
    have h2 := h x (by simp)
    have h1a := h1 a
    have h1x := h1 x.1
    have h3 : M * ((l ++ [x]).length : Int) = M * l.length + M := by
      rw [List.length_append, List.length_singleton]; push_cast; rw [Int.mul_add, Int.mul_one]
    rw [tabS_snoc, getI_bump, h3]
    split <;> omega
theorem tabN_le {M : Int} (hM : 0 ≤ M) (ys : List Cnt) : (∀ c ∈ ys, 0 ≤ c.2.2 ∧ c.2.2 ≤ M) → ∀ a, 0 ≤ getI (tabN ys) a ∧ getI (tabN ys) a ≤ M := by
  refine snoc_ind (p := fun ys => (∀ c ∈ ys, 0 ≤ c.2.2 ∧ c.2.2 ≤ M) → ∀ a, 0 ≤ getI (tabN ys) a ∧ getI (tabN ys) a ≤ M) ?_ ?_ ys
  · intro _ a; exact ⟨Int.le_refl _, hM⟩
  · intro l x ih h a
    have h1 := ih (fun c hc => h c (by simp [hc])) a
    have h2 := h x (by simp)
    rw [tabN_snoc, getI_setI]
    split <;> omega
theorem keyS : KeyT Tryz.prog 9 eStr := .str Tryz.underlying9
theorem tabled (S : Nat → Prop) (A : Option Addr) (n c : Nat) (ys : List Cnt) (w : World) (h : SlR kCnt S w (.slice A n c) ys) (hl : ys.length ≤ 1000) (hN : ∀ x ∈ ys, 0 ≤ x.2.2 ∧ x.2.2 ≤ 1000) :
    Ret Tryz.prog 22 #[.slice A n c] w fun r w' => ∃ b1 b2, r = .agg #[.map (some b1), .map (some b2)] ∧ w'.heap[b1]? = some (mapO eSS (ei (tabN ys))) ∧ w'.heap[b2]? = some (mapO eStr (ei (tabS ys))) ∧ Ext w w' := by
  obtain ⟨rfl, hc, hm⟩ := h.len
  have h := h.old
  refine fn_ret tok Tryz.func22 (by kernel_rfl) rfl rfl ?_
  (conv => whnf)
  intro b2 w1 hw1
  (conv => whnf)
  intro b6 w2 hw2
  (conv => whnf)
  intro b7 w3 hw3
  (conv => whnf)
  intro b3 w4 hw4
  have hE4 : Ext w w4 := (((hw1.chg No).trans (hw2.chg No)).trans (hw3.chg No)).trans (hw4.chg No)
  obtain ⟨w5, hr5, hb5, hC5⟩ := store_blk (P := Tryz.prog) (vs := [.map (some b6), .map (some b7)]) hw4.blk rfl (by intro v hv; simp at hv; rcases hv with rfl | rfl <;> rfl)
  (conv => whnf)
  refine ⟨rfl, w5, hr5, ?_⟩
  have hn2 := hw1.hb
  have hn6 := hw2.hb
  have hn7 := hw3.hb
  have hn3 := hw4.hb
  have hs1 := hw1.size
  have hs2 := hw2.size
  have hs3 := hw3.size
  have hs4 := hw4.size
  have hs5 := hC5.size
  have hb2 := hC5.blk ((hw4.chg No).blk ((hw3.chg No).blk ((hw2.chg No).blk hw1.blk (fun h => h)) (fun h => h)) (fun h => h)) (by omega)
  have hm6 : w5.heap[b6]? = some (mapO eSS (ei (tabN []))) := hC5.blk ((hw4.chg No).blk ((hw3.chg No).blk hw2.blk (fun h => h)) (fun h => h)) (by omega)
  have hm7 : w5.heap[b7]? = some (mapO eStr (ei (tabS []))) := hC5.blk ((hw4.chg No).blk hw3.blk (fun h => h)) (by omega)
  have hE5 : Ext w w5 := hE4.then hC5 fun i hi hm => by omega
  have h5 := h.ext hE5
  clear hw1 hw2 hw3 hw4 hr5 hC5
  (conv => whnf)
  refine loop_rule tok [11] [2, 3, 9, 10] (fun vs w' => ∃ i : Nat, vs = [.int .i64 i] ∧ i ≤ ys.length ∧ Chg (fun j => j = b6 ∨ j = b7) w5 w' ∧ w'.heap[b6]? = some (mapO eSS (ei (tabN (ys.take i)))) ∧ w'.heap[b7]? = some (mapO eStr (ei (tabS (ys.take i))))) (fun vs w => match vs with | [.int _ i] => ys.length - i.toNat | _ => 0) ?_
  (conv => whnf)
  refine ⟨⟨0, rfl, Nat.zero_le _, .refl _ _, hm6, hm7⟩, ?_⟩
  clear hm6 hm7
  rintro _ w6 ⟨i, rfl, hi, hC6, hm6, hm7⟩
  have h6 := h5.chg hC6 (fun b hb e => by have : b < w.heap.size := hb; omega)
  have hb6' := hC6.blk hb5 (by omega)
  have hs6 := hC6.size
  (conv => whnf)
  refine condP_dec (fun h1 => ?_) (fun h1 => ?_)
  · obtain ⟨ad, rfl⟩ := h6.some_ (by omega)
    obtain ⟨x, hx1⟩ : ∃ x, ys[i]? = some x := ⟨_, List.getElem?_eq_getElem (by omega)⟩
    have hxm := List.mem_of_getElem? hx1
    have hN1 := hN x hxm
    have htk : ys.take (i + 1) = ys.take i ++ [x] := by rw [List.take_add_one, hx1]; rfl
    have hbS := tabS_le (M := 1000) (by omega) (ys.take i) (fun c hc => hN c (List.mem_of_mem_take hc)) x.1
    have hlt := List.length_take_le i ys
    (repeat ((conv => whnf); first | refine numP_i64 (by omega) ?_ | refine numP_u64 (by omega) ?_ | refine numP_u8 (by omega) ?_ | refine Exists.intro _ (And.intro ‹_› ?_) | refine Exists.intro _ (And.intro rfl ?_) | refine And.intro (by omega) (Exists.intro _ (And.intro rfl ?_)) | refine And.intro (by omega) ?_)); (conv => whnf)
    refine ⟨_, rfl, by rw [Int.toNat_natCast]; exact h6.cnt hx1, ?_⟩
    (conv => whnf)
    intro b8 w7 hw7
    obtain ⟨w8, hr8, hb8, hC8⟩ := store_blk (P := Tryz.prog) (vs := [.string (str x.1), .string (str x.2.1), .int .i64 x.2.2]) hw7.blk rfl (by intro v hv; simp at hv; rcases hv with rfl | rfl | rfl <;> rfl)
    (conv => whnf)
    refine ⟨rfl, w8, hr8, ?_⟩
    have hb8n : w6.heap.size ≤ b8 := by rw [hw7.hb]; exact Nat.le_refl _
    have hE68 : Ext w6 w8 := (hw7.chg No).then hC8 fun i hi hm => by omega
    have hb3 := hE68.blk hb6' (fun h => h)
    have hm6 := hE68.blk hm6 (fun h => h)
    have hm7 := hE68.blk hm7 (fun h => h)
    have hC68 := hC6.ext hE68
    clear hw7 hr8 hC8
    (conv => whnf)
    refine ⟨_, by rw [addr_add, cell_of_blk hb3]; rfl, ?_⟩
    (conv => whnf)
    refine ⟨_, by rw [addr_add, cell_of_blk hb8]; rfl, ?_⟩
    (conv => whnf)
    refine ⟨_, by rw [addr_add, cell_of_blk hb8]; rfl, ?_⟩
    (conv => whnf)
    refine ⟨_, by rw [addr_add, cell_of_blk hb8]; rfl, ?_⟩
    (conv => whnf)
    refine sem_update tok rfl keySS (k := (x.1, x.2.1)) rfl rfl rfl hm6 fun w9 hw9 => ?_
    have hw9 : SetO w8 b6 (mapO eSS (aset (ei (tabN (ys.take i))) (x.1, x.2.1) (.int .i64 x.2.2))) w9 := hw9
    rw [ei_set] at hw9
    have hm69 := hw9.blk hm6
    have hC9 : Chg (fun j => j = b6) w8 w9 := hw9.chg _ rfl
    have hm79 := hC9.blk hm7 (by omega)
    have hb39 := hC9.blk hb3 (by omega)
    have hb89 := hC9.blk hb8 (by omega)
    (conv => whnf)
    refine ⟨_, by rw [addr_add, cell_of_blk hb39]; rfl, ?_⟩
    (conv => whnf)
    refine ⟨_, by rw [addr_add, cell_of_blk hb89]; rfl, ?_⟩
    (conv => whnf)
    refine sem_lookup tok (i := ⟨.int .i64, 1, 8, .int .i64 0⟩) rfl rfl keyS (k := x.1) rfl rfl hm79 false ?_
    rw [if_neg (by decide), ei_getD]
    (conv => whnf)
    refine ⟨_, by rw [addr_add, cell_of_blk hb89]; rfl, ?_⟩
    (repeat ((conv => whnf); first | refine numP_i64 (by omega) ?_ | refine numP_u64 (by omega) ?_ | refine numP_u8 (by omega) ?_ | refine Exists.intro _ (And.intro ‹_› ?_) | refine Exists.intro _ (And.intro rfl ?_) | refine And.intro (by omega) (Exists.intro _ (And.intro rfl ?_)) | refine And.intro (by omega) ?_)); (conv => whnf)
    refine sem_update tok rfl keyS (k := x.1) rfl rfl rfl hm79 fun w10 hw10 => ?_
    have hw10 : SetO w9 b7 (mapO eStr (aset (ei (tabS (ys.take i))) x.1 (.int .i64 (getI (tabS (ys.take i)) x.1 + x.2.2)))) w10 := hw10
    rw [ei_bump] at hw10
    have hm7a := hw10.blk hm79
    have hCa : Chg (fun j => j = b7) w9 w10 := hw10.chg _ rfl
    have hm6a := hCa.blk hm69 (by omega)
    (repeat ((conv => whnf); first | refine numP_i64 (by omega) ?_ | refine numP_u64 (by omega) ?_ | refine numP_u8 (by omega) ?_ | refine Exists.intro _ (And.intro ‹_› ?_) | refine Exists.intro _ (And.intro rfl ?_) | refine And.intro (by omega) (Exists.intro _ (And.intro rfl ?_)) | refine And.intro (by omega) ?_)); (conv => whnf)
    refine ⟨⟨rfl, rfl⟩, ⟨i + 1, rfl, by omega, (hC68.then hC9 fun i hi hm => .inl hm).then hCa fun i hi hm => .inr hm, ?_, ?_⟩, by simp; omega⟩
    · rw [htk, tabN_snoc]; exact hm6a
    · rw [htk, tabS_snoc]; exact hm7a
  · obtain rfl : i = ys.length := by omega
    rw [List.take_length] at hm6 hm7
    (conv => whnf)
    refine ⟨_, rfl, cellsAt_blk hb6', ?_⟩
    have hb2' := hC6.blk hb2 (by omega)
    obtain ⟨w7, hr7, hb7, hC7⟩ := store_blk (P := Tryz.prog) (vs := [.map (some b6), .map (some b7)]) hb2' rfl (by intro v hv; simp at hv; rcases hv with rfl | rfl <;> rfl)
    (conv => whnf)
    refine ⟨rfl, w7, hr7, ?_⟩
    (conv => whnf)
    refine ⟨_, rfl, cellsAt_blk hb7, ?_⟩
    exact ⟨b6, b7, rfl, hC7.blk hm6 (by omega), hC7.blk hm7 (by omega), (hE5.then hC6 fun i hi hm => by omega).then hC7 fun i hi hm => by omega⟩
end Go.Proofs.YtfeegacmmfgjfaaGreatDoorX

/-!  Package counts: the row of a table. -/
set_option linter.unusedVariables false
set_option maxRecDepth 10000
namespace Go.Proofs.YtfeegacmmfgjfaaGreatDoorX
open Go Go.RowKit Go.Proofs Go.Proofs.YtfeegacmmfgjfaaGreatDoorM
theorem qtxt_int {n : Int} (h : 0 ≤ n) : qtxt (n : Rat) = dd n.toNat := by
  unfold qtxt
  rw [Rat.num_intCast, Rat.den_intCast, if_neg (by omega), if_pos rfl, List.nil_append, List.append_nil, show n.natAbs = n.toNat by omega]
theorem itoa_q (n : Int) (h : 0 ≤ n) : Lib.itoa n = qtxt (n : Rat) := by
  rw [qtxt_int h]
  unfold Lib.itoa
  rw [if_neg (by omega)]
theorem itoaQ (n : Int) (h0 : 0 ≤ n) (h1 : n ≤ 9223372036854775807) (w : World) (hL : Laid w) : Ret Tryz.prog 49 #[.int .i64 n] w fun v w' => v = .string (str (qtxt (n : Rat))) ∧ Ext w w' := by
  rw [← itoa_q n h0]
  exact itoa_ n (by omega) h1 w hL
theorem dg_int {n : Int} {k : Nat} (h0 : 0 ≤ n) (hk : 0 < k) (h : n < 10 ^ k) : Dg k (n : Rat) := by
  refine ⟨?_, ?_⟩
  · rw [Rat.num_intCast]
    exact dd_len_le hk (by have : ((10 ^ k : Nat) : Int) = (10 : Int) ^ k := by push_cast; rfl
                           omega)
  · rw [Rat.den_intCast]
    exact dd_len_le hk (Nat.one_lt_pow (by omega) (by decide))
/-- The numbers of a row. -/
def allQ (s : List (Str × Int)) (a : Str) (L : List Str) (k : Rat) : Rat := k * ((L.length : Int) : Rat) + ((getI s a : Int) : Rat)
def cellR (n : List (K × Int)) (s : List (Str × Int)) (a : Str) (L : List Str) (k : Rat) (b : Str) : Rat := if allQ s a L k = 0 then 0 else (((getI n (a, b) : Int) : Rat) + k) / allQ s a L k
def rowR (n : List (K × Int)) (s : List (Str × Int)) (a : Str) (L : List Str) (k : Rat) : List Rat := L.map (cellR n s a L k)
theorem row (b1 b2 : Nat) (n : List (K × Int)) (s : List (Str × Int)) (a : Str) (S : Nat → Prop) (A : Option Addr) (m c : Nat) (L : List Str) (k : Rat) (w : World) (hL : Laid w) (h1 : w.heap[b1]? = some (mapO eSS (ei n))) (h2 : w.heap[b2]? = some (mapO eStr (ei s)))
    (h : SlR kStr S w (.slice A m c) L) (hl : L.length ≤ 600) (hk : Dg 4 k) (hs : 0 ≤ getI s a ∧ getI s a ≤ 1000000) (hn : ∀ b, 0 ≤ getI n (a, b) ∧ getI n (a, b) ≤ 1000) :
    Ret Tryz.prog 24 #[.agg #[.map (some b1), .map (some b2)], .string (str a), .slice A m c, .string (str (qtxt k))] w fun r w' => ∃ v, r = .tuple #[v, .int .i64 0] ∧ Fresh kStr 9 w w' v ((rowR n s a L k).map qtxt) := by
  obtain ⟨rfl, hc, hm⟩ := h.len
  have d1 : Dg 3 (((L.length : Int) : Rat)) := dg_int (by omega) (by omega) (by omega)
  have d2 : Dg 7 (((getI s a : Int) : Rat)) := dg_int hs.1 (by omega) (by omega)
  have d3 := hk.mul d1
  have d4 : Dg 15 (allQ s a L k) := d3.add d2
  refine fn_ret tok Tryz.func24 (by kernel_rfl) rfl rfl ?_
  (conv => whnf)
  intro b4 w1 hw1
  have hE1 : Ext w w1 := hw1.chg _
  (conv => whnf)
  refine (itoaQ (L.length : Int) (by omega) (by omega) w1 (hL.ext hE1)).call ?_
  rintro _ w2 ⟨rfl, hE2⟩
  have hE02 := hE1.trans hE2
  (conv => whnf)
  refine (rat_Mul k _ w2 (hL.ext hE02) (hk.mono (by omega)) (d1.mono (by omega))).call ?_
  rintro _ w3 ⟨rfl, hE3⟩
  have hE03 := hE02.trans hE3
  have hb4 := (hE2.trans hE3).blk hw1.blk (fun h => h)
  (conv => whnf)
  refine condP_yes rfl ?_
  (conv => whnf)
  refine ⟨_, by rw [addr_add, cell_of_blk hb4]; rfl, ?_⟩
  (conv => whnf)
  refine sem_lookup tok (i := ⟨.int .i64, 1, 8, .int .i64 0⟩) rfl rfl keyS (k := a) rfl rfl (hE03.blk h2 (fun h => h)) false ?_
  rw [if_neg (by decide), ei_getD]
  (conv => whnf)
  refine (itoaQ (getI s a) hs.1 (by omega) w3 (hL.ext hE03)).call ?_
  rintro _ w4 ⟨rfl, hE4⟩
  have hE04 := hE03.trans hE4
  (conv => whnf)
  refine (rat_Add _ _ w4 (hL.ext hE04) (d3.mono (by omega)) (d2.mono (by omega))).call ?_
  rintro _ w5 ⟨rfl, hE5⟩
  have hE05 := hE04.trans hE5
  have hb4 := (hE4.trans hE5).blk hb4 (fun h => h)
  rw [show k * ((L.length : Int) : Rat) + ((getI s a : Int) : Rat) = allQ s a L k from rfl]
  clear hw1 hE1 hE2 hE02 hE3 hE03 hE4 hE04 hE5
  (conv => whnf)
  refine loop_rule tok [8, 9, 37] [0, 1, 2, 3, 4, 10, 35, 36] (fun vs w' => ∃ (i : Nat) (v : Value), vs = [v, .int .i64 0, .int .i64 i] ∧ i ≤ L.length ∧ Fresh kStr 9 w5 w' v ((L.take i).map fun b => qtxt (cellR n s a L k b))) (fun vs w => match vs with | [_, _, .int _ i] => L.length - i.toNat | _ => 0) ?_
  (conv => whnf)
  refine ⟨⟨0, _, rfl, Nat.zero_le _, .nil _ _ (.refl _ _)⟩, ?_⟩
  rintro _ w6 ⟨i, v, rfl, hi, hF⟩
  have hE6 := hF.ext
  have hE06 := hE05.trans hE6
  (conv => whnf)
  refine condP_dec (fun hlt => ?_) (fun hlt => ?_)
  · have hil : i < L.length := by omega
    obtain ⟨ad, rfl⟩ := h.some_ (by omega)
    obtain ⟨x, hx⟩ : ∃ x, L[i]? = some x := ⟨_, List.getElem?_eq_getElem hil⟩
    have hcell : w6.cell? (ad.add ((i : Int).toNat * 1)) = some (.string (str x)) := by
      obtain ⟨ad', cs, he, _, hr, hca⟩ := (h.ext hE06).get hx
      cases he
      obtain rfl : cs = [.string (str x)] := hr
      rw [Int.toNat_natCast]
      exact cellsAt_zero hca rfl
    have htk : (L.take (i + 1)).map (fun b => qtxt (cellR n s a L k b)) = (L.take i).map (fun b => qtxt (cellR n s a L k b)) ++ [qtxt (cellR n s a L k x)] := by
      rw [List.take_add_one, hx]; simp
    have hlen : ((L.take i).map fun b => qtxt (cellR n s a L k b)).length ≤ 600 := by
      rw [List.length_map]; exact Nat.le_trans (List.length_take_le _ _) (by omega)
    (repeat ((conv => whnf); first | refine numP_i64 (by omega) ?_ | refine numP_u64 (by omega) ?_ | refine numP_u8 (by omega) ?_ | refine Exists.intro _ (And.intro ‹_› ?_) | refine Exists.intro _ (And.intro rfl ?_) | refine And.intro (by omega) (Exists.intro _ (And.intro rfl ?_)) | refine And.intro (by omega) ?_)); (conv => whnf)
    refine condP_not (condP_yes rfl ?_)
    (conv => whnf)
    refine condP_str (b := [48]) (fun h0 => ?_) fun h0 => ?_
    · have hz : allQ s a L k = 0 := qtxt_inj (h0.trans qtxt_zero_.symm)
      have hcz : cellR n s a L k x = 0 := if_pos hz
      (conv => whnf)
      intro b7 w7 hw7
      (conv => whnf)
      refine kStr_flat.app (x := [48]) tok rfl rfl rfl rfl rfl hw7 hF rfl (by omega) (by omega) (fun v7 w8 hF8 hC8 hown => ?_)
      (repeat ((conv => whnf); first | refine numP_i64 (by omega) ?_ | refine numP_u64 (by omega) ?_ | refine numP_u8 (by omega) ?_ | refine Exists.intro _ (And.intro ‹_› ?_) | refine Exists.intro _ (And.intro rfl ?_) | refine And.intro (by omega) (Exists.intro _ (And.intro rfl ?_)) | refine And.intro (by omega) ?_)); (conv => whnf)
      refine ⟨⟨rfl, rfl⟩, ⟨i + 1, v7, rfl, by omega, ?_⟩, by simp; omega⟩
      rw [htk, hcz, qtxt_zero_]; exact hF8
    · have hz : allQ s a L k ≠ 0 := fun e => h0 (by rw [e]; exact qtxt_zero_)
      have hcz : cellR n s a L k x = (((getI n (a, x) : Int) : Rat) + k) / allQ s a L k := if_neg hz
      have hn' := hn x
      have d5 : Dg 4 (((getI n (a, x) : Int) : Rat)) := dg_int hn'.1 (by omega) (by omega)
      have d6 := d5.add hk
      (conv => whnf)
      refine ⟨_, by rw [addr_add, cell_of_blk (hE6.blk hb4 (fun h => h))]; rfl, ?_⟩
      (conv => whnf)
      refine sem_lookup tok (i := ⟨.int .i64, 1, 8, .int .i64 0⟩) rfl rfl keySS (k := (a, x)) rfl rfl (hE06.blk h1 (fun h => h)) false ?_
      rw [if_neg (by decide), ei_getD]
      (conv => whnf)
      refine (itoaQ (getI n (a, x)) hn'.1 (by omega) w6 (hL.ext hE06)).call ?_
      rintro _ w7 ⟨rfl, hE7⟩
      (conv => whnf)
      refine (rat_Add _ _ w7 (hL.ext (hE06.trans hE7)) (d5.mono (by omega)) (hk.mono (by omega))).call ?_
      rintro _ w8 ⟨rfl, hE8⟩
      (conv => whnf)
      refine condP_yes rfl ?_
      (conv => whnf)
      refine (rat_Div _ _ w8 (hL.ext ((hE06.trans hE7).trans hE8)) (d6.mono (by omega)) (d4.mono (by omega)) hz).call ?_
      rintro _ w9 ⟨rfl, hE9⟩
      rw [← hcz]
      (conv => whnf)
      intro b7 w10 hw10
      have hF9 := hF.up ((hE7.trans hE8).trans hE9)
      (conv => whnf)
      refine kStr_flat.app (x := qtxt (cellR n s a L k x)) tok rfl rfl rfl rfl rfl hw10 hF9 rfl (by omega) (by omega) (fun v7 w11 hF11 hC11 hown => ?_)
      (repeat ((conv => whnf); first | refine numP_i64 (by omega) ?_ | refine numP_u64 (by omega) ?_ | refine numP_u8 (by omega) ?_ | refine Exists.intro _ (And.intro ‹_› ?_) | refine Exists.intro _ (And.intro rfl ?_) | refine And.intro (by omega) (Exists.intro _ (And.intro rfl ?_)) | refine And.intro (by omega) ?_)); (conv => whnf)
      refine ⟨⟨rfl, rfl⟩, ⟨i + 1, v7, rfl, by omega, ?_⟩, by simp; omega⟩
      rw [htk]; exact hF11
  · obtain rfl : i = L.length := by omega
    rw [List.take_length] at hF
    (conv => whnf)
    refine condP_not (condP_yes rfl ?_)
    (conv => whnf)
    refine ⟨v, rfl, ?_⟩
    unfold rowR
    rw [List.map_map]
    exact hF.back hE05
end Go.Proofs.YtfeegacmmfgjfaaGreatDoorX

/-!  Package counts: Estimate. -/
set_option linter.unusedVariables false
set_option maxRecDepth 10000
namespace Go.Proofs.YtfeegacmmfgjfaaGreatDoorX
open Go Go.RowKit Go.Proofs Go.Proofs.YtfeegacmmfgjfaaGreatDoorM
theorem SetB.blk' {w w' : World} {b j : Nat} {v : Value} {cs : Array Value} {t : TypeId} {fr : Nat × Nat} (h : SetB w ((⟨b, 0, none⟩ : Addr).add j) v w') (hb : w.heap[b]? = some (.cells cs t fr)) : w'.heap[b]? = some (.cells (cs.setIfInBounds j v) t fr) := by
  rw [h.hw, addr_add, Nat.zero_add]; exact set_blk hb j v
theorem SetB.chgB {w w' : World} {b j : Nat} {v : Value} (h : SetB w ((⟨b, 0, none⟩ : Addr).add j) v w') : Chg (fun i => i = b) w w' := h.chg _ (by rw [add_block])
theorem str1_new {w w' : World} {b : Nat} {x : Str} (h : NewB w (.cells #[.string (str x)] 9) b w') : SlR kStr (fun i => i = b) w' (.slice (some ⟨b, 0, none⟩) 1 1) [x] := by
  have hF : Fresh kStr 9 w w' (.slice (some ⟨b, 0, none⟩) 1 1) [x] := kStr_flat.in_ (xs := [x]) (h.chg No) (by rw [h.hb]; exact Nat.le_refl _) h.blk (by simp) (by unfold maxLen; omega) rfl rfl
  exact (kStr_flat.read1 hF).mono fun i hi _ => by simp only [Value.ownBlock, Option.some.injEq] at hi; exact hi.symm
theorem str2_new {w w' : World} {b : Nat} {x y : Str} (h : NewB w (.cells #[.string (str x), .string (str y)] 9) b w') : SlR kStr (fun i => i = b) w' (.slice (some ⟨b, 0, none⟩) 2 2) [x, y] := by
  have hF : Fresh kStr 9 w w' (.slice (some ⟨b, 0, none⟩) 2 2) [x, y] := kStr_flat.in_ (xs := [x, y]) (h.chg No) (by rw [h.hb]; exact Nat.le_refl _) h.blk (by simp) (by unfold maxLen; omega) rfl rfl
  exact (kStr_flat.read1 hF).mono fun i hi _ => by simp only [Value.ownBlock, Option.some.injEq] at hi; exact hi.symm
def tagN (ys : List Cnt) : List Str := ys.flatMap fun c => [c.1, c.2.1]
def tagsIn (y1 y2 : List Cnt) : List Str := tagN y1 ++ y2.map (·.1)
def wordsIn (y2 : List Cnt) : List Str := y2.map (·.2.1)
/-- The model of counts, as texts. -/
def tagsM (y1 y2 : List Cnt) : List Str := nms (tagsIn y1 y2)
def wordsM (y2 : List Cnt) : List Str := nms (wordsIn y2)
def nextM (y1 y2 : List Cnt) (k : Rat) : List (List Str) := (tagsM y1 y2 ++ [[]]).map fun t => (rowR (tabN y1) (tabS y1) t (tagsM y1 y2 ++ [[]]) k).map qtxt
def emitM (y1 y2 : List Cnt) (k : Rat) : List (List Str) := (tagsM y1 y2).map fun t => (rowR (tabN y2) (tabS y2) t (wordsM y2 ++ [[]]) k).map qtxt
theorem estimate (S : Nat → Prop) (A1 A2 : Option Addr) (n1 c1 n2 c2 : Nat) (y1 y2 : List Cnt) (ks : Str) (w : World) (hL0 : Laid w) (h1 : SlR kCnt S w (.slice A1 n1 c1) y1) (h2 : SlR kCnt S w (.slice A2 n2 c2) y2) (g1 : Good y1) (g2 : Good y2)
    (hp1 : ∀ x ∈ y1, (x.1 = [] ∨ isNm x.1 = true) ∧ (x.2.1 = [] ∨ isNm x.2.1 = true)) (hp2 : ∀ x ∈ y2, isNm x.1 = true ∧ isNm x.2.1 = true) (hN1 : ∀ x ∈ y1, x.2.2 ≤ 1000) (hN2 : ∀ x ∈ y2, x.2.2 ≤ 1000)
    (hks : ks.length ≤ 1000000) (hkd : ∀ q, ks = qtxt q → Dg 4 q) :
    Ret Tryz.prog 8 #[.agg #[.slice A1 n1 c1, .slice A2 n2 c2], .string (str ks)] w fun r w' => Ext w w' ∧
      ((∃ e, e ≠ 0 ∧ r = .tuple #[.agg #[.slice none 0 0, .slice none 0 0, .slice none 0 0, .slice none 0 0], .int .i64 e] ∧ ¬ ∃ q, ks = qtxt q ∧ 0 ≤ q ∧ (tagsM y1 y2).length ≤ 40 ∧ (wordsM y2).length ≤ 500) ∨
       (∃ q vT vW vN vE, ks = qtxt q ∧ 0 ≤ q ∧ (tagsM y1 y2).length ≤ 40 ∧ (wordsM y2).length ≤ 500 ∧ r = .tuple #[.agg #[vT, vW, vN, vE], .int .i64 0] ∧ SlR kStr (New w) w' vT (tagsM y1 y2) ∧ SlR kStr (New w) w' vW (wordsM y2) ∧ SlR (kSl kStr) (New w) w' vN (nextM y1 y2 q) ∧ SlR (kSl kStr) (New w) w' vE (emitM y1 y2 q))) := by
  refine fn_ret tok Tryz.func8 (by kernel_rfl) rfl rfl ?_
  (conv => whnf)
  intro b2 w1 hw1
  (conv => whnf)
  intro b4 w2 hw2
  have hE2 : Ext w w2 := (hw1.chg No).trans (hw2.chg No)
  have hb2 := (hw2.chg No).blk hw1.blk (fun h => h)
  have hb4 := hw2.blk
  have hn2 := hw1.hb
  have hn4 := hw2.hb
  have hs1 := hw1.size
  have hs2 := hw2.size
  clear hw1 hw2
  (conv => whnf)
  refine ⟨_, rfl, cellsAt_blk hb2, ?_⟩
  (conv => whnf)
  refine (valid S A1 A2 n1 c1 n2 c2 y1 y2 w2 (h1.ext hE2) (h2.ext hE2) g1 g2 hp1 hp2).call ?_
  rintro _ w3 ⟨rfl, hE3⟩
  have hE03 := hE2.trans hE3
  (conv => whnf)
  refine (rat_Valid ks w3 (hL0.ext hE03) hks).call ?_
  rintro _ w4 ⟨hE4, hv⟩
  have hE04 := hE03.trans hE4
  have hE24 := hE3.trans hE4
  have hb4c := hE24.blk hb4 (fun h => h)
  have hEc := hE04
  rcases hv with ⟨q, hq, rfl, rfl⟩ | ⟨hbad0, rfl⟩
  rotate_left
  · have hbad : ¬ ∃ q, ks = qtxt q ∧ 0 ≤ q ∧ (tagsM y1 y2).length ≤ 40 ∧ (wordsM y2).length ≤ 500 := fun ⟨q, h, _⟩ => hbad0 q ((hkd q h).short (by omega)) h
    (conv => whnf)
    obtain ⟨wz, hrz, hbz, hCz⟩ := store_blk (P := Tryz.prog) (vs := [.slice none 0 0, .slice none 0 0, .slice none 0 0, .slice none 0 0]) hb4c rfl (by intro v hv; simp at hv; rcases hv with rfl | rfl <;> rfl)
    (conv => whnf)
    refine ⟨rfl, wz, hrz, ?_⟩
    (conv => whnf)
    refine ⟨_, rfl, cellsAt_blk hbz, ?_⟩
    exact ⟨hEc.then hCz fun i hi hm => by omega, .inl ⟨_, by decide, rfl, hbad⟩⟩
  have hq3 : Dg 4 q := hkd q rfl
  clear hb4c hEc
  (conv => whnf)
  rw [show ({ data := #[48] } : ByteArray) = str (qtxt 0) by rw [qtxt_zero_]]
  refine (rat_Cmp q 0 w4 (hL0.ext hE04) ⟨Nat.le_trans hq3.1 (by omega), Nat.le_trans hq3.2 (by omega)⟩ (by decide +kernel)).call ?_
  rintro _ w5 ⟨rfl, hE5⟩
  have hE05 := hE04.trans hE5
  have hE25 := hE24.trans hE5
  have hb4 := hE25.blk hb4 (fun h => h)
  have hb2 := hE25.blk hb2 (fun h => h)
  have hqz : qz q 0 = q.num := by unfold qz; simp
  have hs5 := hE25.size
  rw [hqz]
  by_cases hneg : q.num < 0
  · rw [if_neg (by omega), if_pos hneg]
    have hb4c := hb4
    have hEc := hE05
    have hbad : ¬ ∃ q', qtxt q = qtxt q' ∧ 0 ≤ q' ∧ (tagsM y1 y2).length ≤ 40 ∧ (wordsM y2).length ≤ 500 := fun ⟨q', h, h2, _⟩ => by
      obtain rfl := qtxt_inj h
      have := Rat.num_nonneg.2 h2
      omega
    (conv => whnf)
    refine condP_yes (by omega) ?_
    obtain ⟨wz, hrz, hbz, hCz⟩ := store_blk (P := Tryz.prog) (vs := [.slice none 0 0, .slice none 0 0, .slice none 0 0, .slice none 0 0]) hb4c rfl (by intro v hv; simp at hv; rcases hv with rfl | rfl <;> rfl)
    (conv => whnf)
    refine ⟨rfl, wz, hrz, ?_⟩
    (conv => whnf)
    refine ⟨_, rfl, cellsAt_blk hbz, ?_⟩
    exact ⟨hEc.then hCz fun i hi hm => by omega, .inl ⟨_, by decide, rfl, hbad⟩⟩
  have hq0 : 0 ≤ q := by
    rw [← Rat.num_nonneg]; omega
  have hc0 : ¬ (if q.num = 0 then (0 : Int) else if q.num < 0 then -1 else 1) < 0 := by
    split
    · omega
    · omega
  (conv => whnf)
  refine condP_no hc0 ?_
  clear hc0 hE2 hE3 hE4 hE5 hE03 hE04 hE24 hE25
  have hb4 : w5.heap[b4]? = some (.cells #[.slice none 0 0, .slice none 0 0, .slice none 0 0, .slice none 0 0] 36 (0, 0)) := hb4
  have hb2 : w5.heap[b2]? = some (.cells #[.slice A1 n1 c1, .slice A2 n2 c2] 28 (0, 0)) := hb2
  have h1 := h1.old.ext hE05
  have h2 := h2.old.ext hE05
  obtain ⟨rfl, hc1, hm1⟩ := h1.len
  obtain ⟨rfl, hc2, hm2⟩ := h2.len
  have hl1 := g1.len
  have hl2 := g2.len
  (conv => whnf)
  refine ⟨_, by rw [addr_add, cell_of_blk hb2]; rfl, ?_⟩
  (conv => whnf)
  refine loop_rule tok [6, 36] [1, 2, 4, 7, 34, 35] (fun vs w' => ∃ (i : Nat) (v : Value), vs = [v, .int .i64 i] ∧ i ≤ y1.length ∧ Fresh kStr 9 w5 w' v (tagN (y1.take i))) (fun vs w => match vs with | [_, .int _ i] => y1.length - i.toNat | _ => 0) ?_
  (conv => whnf)
  refine ⟨⟨0, _, rfl, Nat.zero_le _, .nil _ _ (.refl _ _)⟩, ?_⟩
  rintro _ w6 ⟨i, v6, rfl, hi, hF6⟩
  have h16 := h1.ext hF6.ext
  (conv => whnf)
  refine condP_dec (fun hlt => ?_) (fun hlt => ?_)
  · obtain ⟨ad, rfl⟩ := h1.some_ (by omega)
    obtain ⟨x, hx⟩ : ∃ x, y1[i]? = some x := ⟨_, List.getElem?_eq_getElem (by omega)⟩
    have htk : tagN (y1.take (i + 1)) = tagN (y1.take i) ++ [x.1, x.2.1] := by
      rw [List.take_add_one, hx]; simp [tagN]
    have hlen : (tagN (y1.take i)).length ≤ 2 * i := by
      have := len_flat (fun c : Cnt => [c.1, c.2.1]) 2 (y1.take i) (fun x _ => by simp)
      have h3 := List.length_take_le i y1
      unfold tagN; omega
    (repeat ((conv => whnf); first | refine numP_i64 (by omega) ?_ | refine numP_u64 (by omega) ?_ | refine numP_u8 (by omega) ?_ | refine Exists.intro _ (And.intro ‹_› ?_) | refine Exists.intro _ (And.intro rfl ?_) | refine And.intro (by omega) (Exists.intro _ (And.intro rfl ?_)) | refine And.intro (by omega) ?_)); (conv => whnf)
    refine ⟨_, rfl, by rw [Int.toNat_natCast]; exact h16.cnt hx, ?_⟩
    (conv => whnf)
    intro b9 w7 hw7
    obtain ⟨w8, hr8, hb8, hC8⟩ := store_blk (P := Tryz.prog) (vs := [.string (str x.1), .string (str x.2.1), .int .i64 x.2.2]) hw7.blk rfl (by intro v hv; simp at hv; rcases hv with rfl | rfl | rfl <;> rfl)
    (conv => whnf)
    refine ⟨rfl, w8, hr8, ?_⟩
    have hn9 := hw7.hb
    have hE68 : Ext w6 w8 := (hw7.chg No).then hC8 fun i hi hm => by omega
    (conv => whnf)
    refine ⟨_, by rw [addr_add, cell_of_blk hb8]; rfl, ?_⟩
    (conv => whnf)
    refine ⟨_, by rw [addr_add, cell_of_blk hb8]; rfl, ?_⟩
    (conv => whnf)
    intro bA w9 hw9
    have hF9 := hF6.up (hE68.trans (hw9.chg No))
    (conv => whnf)
    refine kStr_flat.app_all tok rfl rfl rfl rfl rfl hF9 (str2_new hw9) (fun b hb e => ?_) (by simp; omega) (by simp; omega) fun v' w10 hF10 hC10 ho10 => ?_
    · have h3 := (hF6.newB hb).2
      have h4 := hw9.hb
      have h5 := hE68.size
      omega
    (repeat ((conv => whnf); first | refine numP_i64 (by omega) ?_ | refine numP_u64 (by omega) ?_ | refine numP_u8 (by omega) ?_ | refine Exists.intro _ (And.intro ‹_› ?_) | refine Exists.intro _ (And.intro rfl ?_) | refine And.intro (by omega) (Exists.intro _ (And.intro rfl ?_)) | refine And.intro (by omega) ?_)); (conv => whnf)
    refine ⟨⟨rfl, rfl⟩, ⟨i + 1, v', rfl, by omega, ?_⟩, by simp; omega⟩
    rw [htk]; exact hF10
  obtain rfl : i = y1.length := by omega
  rw [List.take_length] at hF6
  clear hlt hi h16
  (conv => whnf)
  refine ⟨_, by rw [addr_add, cell_of_blk (hF6.ext.blk hb2 (fun h => h))]; rfl, ?_⟩
  (conv => whnf)
  refine loop_rule tok [6, 7, 51] [1, 2, 4, 49, 50] (fun vs w' => ∃ (i : Nat) (v6 v7 : Value), vs = [v6, v7, .int .i64 i] ∧ i ≤ y2.length ∧ Fresh kStr 9 w5 w' v6 (tagN y1 ++ (y2.take i).map (·.1)) ∧ Fresh kStr 9 w5 w' v7 ((y2.take i).map (·.2.1)) ∧ ∀ b, v6.ownBlock = some b → v7.ownBlock ≠ some b) (fun vs w => match vs with | [_, _, .int _ i] => y2.length - i.toNat | _ => 0) ?_
  (conv => whnf)
  refine ⟨⟨0, v6, _, rfl, Nat.zero_le _, by simpa using hF6, .nil _ _ hF6.ext, fun b hb e => by cases e⟩, ?_⟩
  clear hF6
  rintro _ w6 ⟨i, v6, v7, rfl, hi, hF6, hF7, hd⟩
  have h26 := h2.ext hF6.ext
  (conv => whnf)
  refine condP_dec (fun hlt => ?_) (fun hlt => ?_)
  · obtain ⟨ad, rfl⟩ := h2.some_ (by omega)
    obtain ⟨x, hx⟩ : ∃ x, y2[i]? = some x := ⟨_, List.getElem?_eq_getElem (by omega)⟩
    have htk : y2.take (i + 1) = y2.take i ++ [x] := by rw [List.take_add_one, hx]; rfl
    have hlen : (tagN y1).length ≤ 2000 := by
      have := len_flat (fun c : Cnt => [c.1, c.2.1]) 2 y1 (fun x _ => by simp)
      unfold tagN; omega
    have hlt2 := List.length_take_le i y2
    (repeat ((conv => whnf); first | refine numP_i64 (by omega) ?_ | refine numP_u64 (by omega) ?_ | refine numP_u8 (by omega) ?_ | refine Exists.intro _ (And.intro ‹_› ?_) | refine Exists.intro _ (And.intro rfl ?_) | refine And.intro (by omega) (Exists.intro _ (And.intro rfl ?_)) | refine And.intro (by omega) ?_)); (conv => whnf)
    refine ⟨_, rfl, by rw [Int.toNat_natCast]; exact h26.cnt hx, ?_⟩
    (conv => whnf)
    intro b11 w7 hw7
    obtain ⟨w8, hr8, hb8, hC8⟩ := store_blk (P := Tryz.prog) (vs := [.string (str x.1), .string (str x.2.1), .int .i64 x.2.2]) hw7.blk rfl (by intro v hv; simp at hv; rcases hv with rfl | rfl | rfl <;> rfl)
    (conv => whnf)
    refine ⟨rfl, w8, hr8, ?_⟩
    have hn11 := hw7.hb
    have hE68 : Ext w6 w8 := (hw7.chg No).then hC8 fun i hi hm => by omega
    have hn6 : ∀ b, v6.ownBlock = some b → b ≠ b11 := fun b hb e => by have := (hF6.newB hb).2; omega
    have hn7 : ∀ b, v7.ownBlock = some b → b ≠ b11 := fun b hb e => by have := (hF7.newB hb).2; omega
    have hF6 := hF6.up (hE68.trans (Chg.drew _ _))
    have hF7 := hF7.up (hE68.trans (Chg.drew _ _))
    have hS : w8.drew.heap[b11]? = some (.cells #[.string (str x.1), .string (str x.2.1), .int .i64 x.2.2] 60 (0, 0)) := hb8
    clear hr8 hC8 hb8 hw7
    (conv => whnf)
    refine draw_meet [1, 2, 4, 49, 50, 51, 6, 7] (fun vs w' => ∃ v6 v7 : Value, vs = [.string (str (qtxt q)), .pointer (some ⟨b2, 0, none⟩), .pointer (some ⟨b4, 0, none⟩), .slice (some ad) y2.length c2, .int .i64 (y2.length : Nat), .int .i64 i, v6, v7] ∧
      Fresh kStr 9 w5 w' v6 ((tagN y1 ++ (y2.take i).map (·.1)) ++ [x.1]) ∧ Fresh kStr 9 w5 w' v7 ((y2.take i).map (·.2.1) ++ [x.2.1]) ∧ ∀ b, v6.ownBlock = some b → v7.ownBlock ≠ some b) ?_ ?_
    · refine draw_held tok mixed (fun w' => w'.heap[b11]? = some (.cells #[.string (str x.1), .string (str x.2.1), .int .i64 x.2.2] 60 (0, 0)))
        (ones [0, 1, 2, 5, 6, 7] (.alt 3 (.alt 4 (.alt 8 (.alt 9 (ones [10, 11] .done) .nil) .nil) (.alt 8 (.alt 4 (.alt 9 (ones [10, 11] .done) .nil) .nil) .nil)) (.alt 8 (.alt 3 (.alt 4 (.alt 9 (ones [10, 11] .done) .nil) .nil) .nil) .nil))) (by decide +kernel) (by decide +kernel) hS ?_
      (conv => whnf)
      refine ⟨_, fun w' h => (by rw [addr_add, cell_of_blk h]; rfl), ?_⟩
      (conv => whnf)
      refine ⟨_, fun w' h => (by rw [addr_add, cell_of_blk h]; rfl), ?_⟩
      (conv => whnf)
      refine ⟨?_, ?_, trivial⟩
      · intro bA wA hwA
        have hrA := str1_new (x := x.1) hwA
        have hnA6 : ∀ b, v6.ownBlock = some b → b ≠ bA := fun b hb e => by have := (hF6.newB hb).2; have := hwA.hb; omega
        have hF6 := hF6.up (hwA.chg No)
        have hF7 := hF7.up (hwA.chg No)
        have hS := (hwA.chg No).blk hS (fun h => h)
        refine ⟨hS, ?_⟩
        (conv => whnf)
        refine ⟨?_, ?_, trivial⟩
        · refine kStr_flat.app_all tok rfl rfl rfl rfl rfl hF6 hrA (fun b hb e => hnA6 b hb e) (by simp; omega) (by simp; omega) fun v6' wC hF6' hCC hown6 => ?_
          have hF7' := kStr_flat.stay hF7 hCC (fun b hb => (hF6.newB hb).1) (fun b hb e => hd b e hb)
          have hd' : ∀ b, v6'.ownBlock = some b → v7.ownBlock ≠ some b := fun b hb e => by
            rcases hown6 b hb with h | h
            · exact hd b h e
            · have := (hF7.newB e).2; omega
          have hS := hCC.blk hS (fun e => hn6 _ e rfl)
          refine ⟨hS, ?_⟩
          (conv => whnf)
          refine ⟨?_, trivial⟩
          have hF6old := hF6
          have hF7old := hF7
          intro bB wB hwB
          have hrB := str1_new (x := x.2.1) hwB
          have hnB7 : ∀ b, v7.ownBlock = some b → b ≠ bB := fun b hb e => by have := (hF7'.newB hb).2; have := hwB.hb; omega
          have hF6' := hF6'.up (hwB.chg No)
          have hF7' := hF7'.up (hwB.chg No)
          have hS := (hwB.chg No).blk hS (fun h => h)
          refine ⟨hS, ?_⟩
          (conv => whnf)
          refine ⟨?_, trivial⟩
          refine kStr_flat.app_all tok rfl rfl rfl rfl rfl hF7' hrB (fun b hb e => hnB7 b hb e) (by simp; omega) (by simp; omega) fun v7' wD hF7'' hCD hown7 => ?_
          have hF6'' := kStr_flat.stay hF6' hCD (fun b hb => (hF7'.newB hb).1) (fun b hb e => hd' b hb e)
          have hd'' : ∀ b, v6'.ownBlock = some b → v7'.ownBlock ≠ some b := fun b hb e => by
            rcases hown7 b e with h | h
            · exact hd' b hb h
            · have := (hF6'.newB hb).2; omega
          have hS := hCD.blk hS (fun e => hn7 _ e rfl)
          refine ⟨hS, ?_⟩
          (conv => whnf)
          exact ⟨rfl, v6', v7', rfl, hF6'', hF7'', hd''⟩
        · intro bB wB hwB
          have hrB := str1_new (x := x.2.1) hwB
          have hnB6 : ∀ b, v6.ownBlock = some b → b ≠ bB := fun b hb e => by have := (hF6.newB hb).2; have := hwB.hb; omega
          have hnB7 : ∀ b, v7.ownBlock = some b → b ≠ bB := fun b hb e => by have := (hF7.newB hb).2; have := hwB.hb; omega
          have hF6 := hF6.up (hwB.chg No)
          have hF7 := hF7.up (hwB.chg No)
          have hS := (hwB.chg No).blk hS (fun h => h)
          refine ⟨hS, ?_⟩
          (conv => whnf)
          refine ⟨?_, trivial⟩
          have hrA := hrA.ext (hwB.chg No)
          refine kStr_flat.app_all tok rfl rfl rfl rfl rfl hF6 hrA (fun b hb e => hnA6 b hb e) (by simp; omega) (by simp; omega) fun v6' wC hF6' hCC hown6 => ?_
          have hF7' := kStr_flat.stay hF7 hCC (fun b hb => (hF6.newB hb).1) (fun b hb e => hd b e hb)
          have hd' : ∀ b, v6'.ownBlock = some b → v7.ownBlock ≠ some b := fun b hb e => by
            rcases hown6 b hb with h | h
            · exact hd b h e
            · have := (hF7.newB e).2; omega
          have hS := hCC.blk hS (fun e => hn6 _ e rfl)
          refine ⟨hS, ?_⟩
          (conv => whnf)
          refine ⟨?_, trivial⟩
          have hrB := hrB.chg hCC (fun b hb e => hnB6 b e hb)
          refine kStr_flat.app_all tok rfl rfl rfl rfl rfl hF7' hrB (fun b hb e => hnB7 b hb e) (by simp; omega) (by simp; omega) fun v7' wD hF7'' hCD hown7 => ?_
          have hF6'' := kStr_flat.stay hF6' hCD (fun b hb => (hF7'.newB hb).1) (fun b hb e => hd' b hb e)
          have hd'' : ∀ b, v6'.ownBlock = some b → v7'.ownBlock ≠ some b := fun b hb e => by
            rcases hown7 b e with h | h
            · exact hd' b hb h
            · have := (hF6'.newB hb).2; omega
          have hS := hCD.blk hS (fun e => hn7 _ e rfl)
          refine ⟨hS, ?_⟩
          (conv => whnf)
          exact ⟨rfl, v6', v7', rfl, hF6'', hF7'', hd''⟩
      · intro bB wB hwB
        have hrB := str1_new (x := x.2.1) hwB
        have hnB6 : ∀ b, v6.ownBlock = some b → b ≠ bB := fun b hb e => by have := (hF6.newB hb).2; have := hwB.hb; omega
        have hnB7 : ∀ b, v7.ownBlock = some b → b ≠ bB := fun b hb e => by have := (hF7.newB hb).2; have := hwB.hb; omega
        have hF6 := hF6.up (hwB.chg No)
        have hF7 := hF7.up (hwB.chg No)
        have hS := (hwB.chg No).blk hS (fun h => h)
        refine ⟨hS, ?_⟩
        (conv => whnf)
        refine ⟨?_, trivial⟩
        intro bA wA hwA
        have hrA := str1_new (x := x.1) hwA
        have hnA6 : ∀ b, v6.ownBlock = some b → b ≠ bA := fun b hb e => by have := (hF6.newB hb).2; have := hwA.hb; omega
        have hF6 := hF6.up (hwA.chg No)
        have hF7 := hF7.up (hwA.chg No)
        have hS := (hwA.chg No).blk hS (fun h => h)
        refine ⟨hS, ?_⟩
        (conv => whnf)
        refine ⟨?_, trivial⟩
        have hrB := hrB.ext (hwA.chg No)
        refine kStr_flat.app_all tok rfl rfl rfl rfl rfl hF6 hrA (fun b hb e => hnA6 b hb e) (by simp; omega) (by simp; omega) fun v6' wC hF6' hCC hown6 => ?_
        have hF7' := kStr_flat.stay hF7 hCC (fun b hb => (hF6.newB hb).1) (fun b hb e => hd b e hb)
        have hd' : ∀ b, v6'.ownBlock = some b → v7.ownBlock ≠ some b := fun b hb e => by
          rcases hown6 b hb with h | h
          · exact hd b h e
          · have := (hF7.newB e).2; omega
        have hS := hCC.blk hS (fun e => hn6 _ e rfl)
        refine ⟨hS, ?_⟩
        (conv => whnf)
        refine ⟨?_, trivial⟩
        have hrB := hrB.chg hCC (fun b hb e => hnB6 b e hb)
        refine kStr_flat.app_all tok rfl rfl rfl rfl rfl hF7' hrB (fun b hb e => hnB7 b hb e) (by simp; omega) (by simp; omega) fun v7' wD hF7'' hCD hown7 => ?_
        have hF6'' := kStr_flat.stay hF6' hCD (fun b hb => (hF7'.newB hb).1) (fun b hb e => hd' b hb e)
        have hd'' : ∀ b, v6'.ownBlock = some b → v7'.ownBlock ≠ some b := fun b hb e => by
          rcases hown7 b e with h | h
          · exact hd' b hb h
          · have := (hF6'.newB hb).2; omega
        have hS := hCD.blk hS (fun e => hn7 _ e rfl)
        refine ⟨hS, ?_⟩
        (conv => whnf)
        exact ⟨rfl, v6', v7', rfl, hF6'', hF7'', hd''⟩
    rintro _ w9 ⟨v6', v7', rfl, hF6', hF7', hd'⟩
    (repeat ((conv => whnf); first | refine numP_i64 (by omega) ?_ | refine numP_u64 (by omega) ?_ | refine numP_u8 (by omega) ?_ | refine Exists.intro _ (And.intro ‹_› ?_) | refine Exists.intro _ (And.intro rfl ?_) | refine And.intro (by omega) (Exists.intro _ (And.intro rfl ?_)) | refine And.intro (by omega) ?_)); (conv => whnf)
    refine ⟨⟨rfl, rfl⟩, ⟨i + 1, v6', v7', rfl, by omega, ?_, ?_, hd'⟩, by simp; omega⟩
    · rw [htk, List.map_append, ← List.append_assoc]; exact hF6'
    · rw [htk, List.map_append]; exact hF7'
  obtain rfl : i = y2.length := by omega
  rw [List.take_length] at hF6 hF7
  clear hlt hi h26
  have hlen : (tagN y1).length ≤ 2000 := by
    have := len_flat (fun c : Cnt => [c.1, c.2.1]) 2 y1 (fun x _ => by simp)
    unfold tagN; omega
  have hs6 := hF6.ext.size
  (conv => whnf)
  refine (names hF6.held (by simp; omega)).call ?_
  intro vT w7 hT
  rw [show nms (tagN y1 ++ y2.map (·.1)) = tagsM y1 y2 from rfl] at hT
  (conv => whnf)
  refine (names (hF7.up hT.ext).held (by simp; omega)).call ?_
  intro vW w8 hW
  rw [show nms (y2.map (·.2.1)) = wordsM y2 from rfl] at hW
  have hE58 : Ext w5 w8 := (hF6.ext.trans hT.ext).trans hW.ext
  have hb4 := hE58.blk hb4 (fun h => h)
  have hb2 := hE58.blk hb2 (fun h => h)
  have hE67 := hT.ext
  have hWs := hW.ext.size
  have hT : Held kStr 9 w6 w8 vT (tagsM y1 y2) := (hT.up hW.ext).held
  have hW : Held kStr 9 w6 w8 vW (wordsM y2) := hW.held.back hE67.size
  have hE8 : Ext w w8 := hE05.trans hE58
  have h1 := h1.ext hE58
  have h2 := h2.ext hE58
  have hs8 := hE58.size
  have hs7 := hE67.size
  have hs78 := hWs
  have hs67 : w6.heap.size ≤ w8.heap.size := by omega
  clear hF6 hF7 hE67 hE58 hd hE05
  obtain ⟨AT, cT, rfl, _, _⟩ := hT.shape
  obtain ⟨AW, cW, rfl, _, _⟩ := hW.shape
  (conv => whnf)
  refine ⟨rfl, trivial, ⟨_, by rw [addr_add, cell_of_blk hb4]; rfl, by rw [addr_add]; exact frozen_of_blk hb4 _⟩, fun w9 hw9 => ?_⟩
  have hb49 := hw9.blk' hb4
  have hC9 := hw9.chgB
  (conv => whnf)
  refine ⟨rfl, trivial, ⟨_, by rw [addr_add, cell_of_blk hb49]; rfl, by rw [addr_add]; exact frozen_of_blk hb49 _⟩, fun w10 hw10 => ?_⟩
  have hb4 : w10.heap[b4]? = some (.cells #[.slice AT (tagsM y1 y2).length cT, .slice AW (wordsM y2).length cW, .slice none 0 0, .slice none 0 0] 36 (0, 0)) := hw10.blk' hb49
  have hC10 : Chg (fun i => i = b4) w8 w10 := hC9.trans hw10.chgB
  have hb2 := hC10.blk hb2 (by omega)
  have hT := hT.keep hC10 (fun b hb => by omega)
  have hW := hW.keep hC10 (fun b hb => by omega)
  have h1 := h1.chg hC10 (fun b hb e => by have : b < w.heap.size := hb; omega)
  have h2 := h2.chg hC10 (fun b hb e => by have : b < w.heap.size := hb; omega)
  have hE10 : Ext w w10 := hE8.then hC10 fun i hi e => by omega
  have hs10 := hC10.size
  clear hb49 hC9 hw9 hw10 hC10 hE8 hs7 hs78 hs8
  (conv => whnf)
  refine ⟨_, by rw [addr_add, cell_of_blk hb4]; rfl, ?_⟩
  (conv => whnf)
  by_cases hTl : (tagsM y1 y2).length ≤ 40
  rotate_left
  · have hbad : ¬ ∃ q', qtxt q = qtxt q' ∧ 0 ≤ q' ∧ (tagsM y1 y2).length ≤ 40 ∧ (wordsM y2).length ≤ 500 := fun ⟨q', h, h2, h3, _⟩ => hTl h3
    refine condP_yes (by omega) ?_
    have hb4c := hb4
    have hEc := hE10
    (conv => whnf)
    obtain ⟨wz, hrz, hbz, hCz⟩ := store_blk (P := Tryz.prog) (vs := [.slice none 0 0, .slice none 0 0, .slice none 0 0, .slice none 0 0]) hb4c rfl (by intro v hv; simp at hv; rcases hv with rfl | rfl <;> rfl)
    (conv => whnf)
    refine ⟨rfl, wz, hrz, ?_⟩
    (conv => whnf)
    refine ⟨_, rfl, cellsAt_blk hbz, ?_⟩
    exact ⟨hEc.then hCz fun i hi hm => by omega, .inl ⟨_, by decide, rfl, hbad⟩⟩
  refine condP_no (by omega) ?_
  refine ⟨_, by rw [addr_add, cell_of_blk hb4]; rfl, ?_⟩
  (conv => whnf)
  by_cases hWl : (wordsM y2).length ≤ 500
  rotate_left
  · have hbad : ¬ ∃ q', qtxt q = qtxt q' ∧ 0 ≤ q' ∧ (tagsM y1 y2).length ≤ 40 ∧ (wordsM y2).length ≤ 500 := fun ⟨q', h, h2, _, h3⟩ => hWl h3
    refine condP_yes (by omega) ?_
    have hb4c := hb4
    have hEc := hE10
    obtain ⟨wz, hrz, hbz, hCz⟩ := store_blk (P := Tryz.prog) (vs := [.slice none 0 0, .slice none 0 0, .slice none 0 0, .slice none 0 0]) hb4c rfl (by intro v hv; simp at hv; rcases hv with rfl | rfl <;> rfl)
    (conv => whnf)
    refine ⟨rfl, wz, hrz, ?_⟩
    (conv => whnf)
    refine ⟨_, rfl, cellsAt_blk hbz, ?_⟩
    exact ⟨hEc.then hCz fun i hi hm => by omega, .inl ⟨_, by decide, rfl, hbad⟩⟩
  refine condP_no (by omega) ?_
  (conv => whnf)
  refine draw_meet [1, 2, 4, 12, 13] (fun vs w' => ∃ b12 b13 a1 a2 d1 d2 : Nat, vs = [.string (str (qtxt q)), .pointer (some ⟨b2, 0, none⟩), .pointer (some ⟨b4, 0, none⟩), .pointer (some ⟨b12, 0, none⟩), .pointer (some ⟨b13, 0, none⟩)] ∧
    w'.heap[b12]? = some (.cells #[.map (some a1), .map (some a2)] 65 (0, 0)) ∧ w'.heap[b13]? = some (.cells #[.map (some d1), .map (some d2)] 65 (0, 0)) ∧ w'.heap[a1]? = some (mapO eSS (ei (tabN y1))) ∧ w'.heap[a2]? = some (mapO eStr (ei (tabS y1))) ∧ w'.heap[d1]? = some (mapO eSS (ei (tabN y2))) ∧ w'.heap[d2]? = some (mapO eStr (ei (tabS y2))) ∧ Ext w10 w') ?_ ?_
  · have hS : w10.drew.heap[b2]? = _ := hb2
    have h1 := h1.ext (Chg.drew No w10)
    have h2 := h2.ext (Chg.drew No w10)
    have hEd : Ext w10 w10.drew := Chg.drew No w10
    have hb2n : b2 < w10.heap.size := (Array.getElem?_eq_some_iff.1 hb2).1
    refine draw_held tok mixed (fun w' => w'.heap[b2]? = some (.cells #[.slice A1 y1.length c1, .slice A2 y2.length c2] 28 (0, 0)))
      (ones [0, 1, 3, 4] (.alt 2 (.alt 5 (.alt 6 (.alt 7 (.alt 8 (.alt 9 .done .nil) .nil) .nil) (.alt 7 (.alt 6 (.alt 8 (.alt 9 .done .nil) .nil) .nil) .nil)) (.alt 6 (.alt 5 (.alt 7 (.alt 8 (.alt 9 .done .nil) .nil) .nil) (.alt 7 (.alt 5 (.alt 8 (.alt 9 .done .nil) .nil) .nil) .nil)) (.alt 7 (.alt 5 (.alt 6 (.alt 8 (.alt 9 .done .nil) .nil) .nil) (.alt 6 (.alt 5 (.alt 8 (.alt 9 .done .nil) .nil) .nil) .nil)) .nil))) (.alt 6 (.alt 2 (.alt 5 (.alt 7 (.alt 8 (.alt 9 .done .nil) .nil) .nil) (.alt 7 (.alt 5 (.alt 8 (.alt 9 .done .nil) .nil) .nil) .nil)) (.alt 7 (.alt 2 (.alt 5 (.alt 8 (.alt 9 .done .nil) .nil) .nil) .nil) .nil)) (.alt 7 (.alt 2 (.alt 5 (.alt 6 (.alt 8 (.alt 9 .done .nil) .nil) .nil) (.alt 6 (.alt 5 (.alt 8 (.alt 9 .done .nil) .nil) .nil) .nil)) (.alt 6 (.alt 2 (.alt 5 (.alt 8 (.alt 9 .done .nil) .nil) .nil) .nil) .nil)) .nil)))) (by decide +kernel) (by decide +kernel) hS ?_
    (conv => whnf)
    refine ⟨_, fun w' h => (by rw [addr_add, cell_of_blk h]; rfl), ?_⟩
    (conv => whnf)
    refine ⟨_, fun w' h => (by rw [addr_add, cell_of_blk h]; rfl), ?_⟩
    (conv => whnf)
    refine ⟨?_, ?_, ?_, trivial⟩
    · refine (tabled _ _ _ _ y1 _ h1 hl1 (fun x hx => ⟨by have := g1.n x hx; omega, hN1 x hx⟩)).call ?_
      rintro _ wa ⟨a1, a2, rfl, hA1', hA2', hx⟩
      (try have hA1 := hx.blk hA1 (fun h => h))
      (try have hA2 := hx.blk hA2 (fun h => h))
      (try have hB1 := hx.blk hB1 (fun h => h))
      (try have hB2 := hx.blk hB2 (fun h => h))
      (try have h12 := hx.blk h12 (fun h => h))
      (try have h13 := hx.blk h13 (fun h => h))
      have h1 := h1.ext hx
      have h2 := h2.ext hx
      have hS := hx.blk hS (fun h => h)
      have hEd := hEd.trans hx
      have hA1 := hA1'
      have hA2 := hA2'
      clear hA1' hA2'
      (conv => whnf)
      refine ⟨hS, ?_⟩
      (conv => whnf)
      refine ⟨?_, ?_, ?_, trivial⟩
      · refine (tabled _ _ _ _ y2 _ h2 hl2 (fun x hx => ⟨by have := g2.n x hx; omega, hN2 x hx⟩)).call ?_
        rintro _ wa ⟨d1, d2, rfl, hB1', hB2', hx⟩
        (try have hA1 := hx.blk hA1 (fun h => h))
        (try have hA2 := hx.blk hA2 (fun h => h))
        (try have hB1 := hx.blk hB1 (fun h => h))
        (try have hB2 := hx.blk hB2 (fun h => h))
        (try have h12 := hx.blk h12 (fun h => h))
        (try have h13 := hx.blk h13 (fun h => h))
        have h1 := h1.ext hx
        have h2 := h2.ext hx
        have hS := hx.blk hS (fun h => h)
        have hEd := hEd.trans hx
        have hB1 := hB1'
        have hB2 := hB2'
        clear hB1' hB2'
        (conv => whnf)
        refine ⟨hS, ?_⟩
        (conv => whnf)
        refine ⟨?_, ?_, trivial⟩
        · intro b12 wb hwb
          have hx := hwb.chg No
          have hl12 : w10.heap.size ≤ b12 := by rw [hwb.hb]; exact hEd.size
          (try have hne : b12 ≠ b13 := by have := (Array.getElem?_eq_some_iff.1 h13).1; have := hwb.hb; omega)
          (try have hA1 := hx.blk hA1 (fun h => h))
          (try have hA2 := hx.blk hA2 (fun h => h))
          (try have hB1 := hx.blk hB1 (fun h => h))
          (try have hB2 := hx.blk hB2 (fun h => h))
          (try have h12 := hx.blk h12 (fun h => h))
          (try have h13 := hx.blk h13 (fun h => h))
          have h1 := h1.ext hx
          have h2 := h2.ext hx
          have hS := hx.blk hS (fun h => h)
          have hEd := hEd.trans hx
          have h12 := hwb.blk
          refine ⟨hS, ?_⟩
          (conv => whnf)
          refine ⟨?_, trivial⟩
          intro b13 wb hwb
          have hx := hwb.chg No
          have hl13 : w10.heap.size ≤ b13 := by rw [hwb.hb]; exact hEd.size
          (try have hne : b12 ≠ b13 := by have := (Array.getElem?_eq_some_iff.1 h12).1; have := hwb.hb; omega)
          (try have hA1 := hx.blk hA1 (fun h => h))
          (try have hA2 := hx.blk hA2 (fun h => h))
          (try have hB1 := hx.blk hB1 (fun h => h))
          (try have hB2 := hx.blk hB2 (fun h => h))
          (try have h12 := hx.blk h12 (fun h => h))
          (try have h13 := hx.blk h13 (fun h => h))
          have h1 := h1.ext hx
          have h2 := h2.ext hx
          have hS := hx.blk hS (fun h => h)
          have hEd := hEd.trans hx
          have h13 := hwb.blk
          refine ⟨hS, ?_⟩
          (conv => whnf)
          refine ⟨?_, trivial⟩
          obtain ⟨wy, hry, h12y, hCy⟩ := store_blk (P := Tryz.prog) (vs := [.map (some a1), .map (some a2)]) h12 rfl (by intro v hv; simp at hv; rcases hv with rfl | rfl <;> rfl)
          refine ⟨rfl, wy, hry, ?_⟩
          have hEd := hEd.then hCy fun i hi e => by omega
          have hA1 := hCy.blk hA1 (fun e => by rw [e, h12] at hA1; cases hA1)
          have hA2 := hCy.blk hA2 (fun e => by rw [e, h12] at hA2; cases hA2)
          have hB1 := hCy.blk hB1 (fun e => by rw [e, h12] at hB1; cases hB1)
          have hB2 := hCy.blk hB2 (fun e => by rw [e, h12] at hB2; cases hB2)
          have h13 := hCy.blk h13 (fun e => hne e.symm)
          have hS := hCy.blk hS (by omega)
          refine ⟨hS, ?_⟩
          (conv => whnf)
          refine ⟨?_, trivial⟩
          obtain ⟨wz, hrz, h13z, hCz⟩ := store_blk (P := Tryz.prog) (vs := [.map (some d1), .map (some d2)]) h13 rfl (by intro v hv; simp at hv; rcases hv with rfl | rfl <;> rfl)
          refine ⟨rfl, wz, hrz, ?_⟩
          have hEd := hEd.then hCz fun i hi e => by omega
          have hA1 := hCz.blk hA1 (fun e => by rw [e, h13] at hA1; cases hA1)
          have hA2 := hCz.blk hA2 (fun e => by rw [e, h13] at hA2; cases hA2)
          have hB1 := hCz.blk hB1 (fun e => by rw [e, h13] at hB1; cases hB1)
          have hB2 := hCz.blk hB2 (fun e => by rw [e, h13] at hB2; cases hB2)
          have h12z := hCz.blk h12y hne
          refine ⟨hCz.blk hS (by omega), ?_⟩
          (conv => whnf)
          exact ⟨rfl, b12, b13, a1, a2, d1, d2, rfl, h12z, h13z, hA1, hA2, hB1, hB2, hEd⟩
        · intro b13 wb hwb
          have hx := hwb.chg No
          have hl13 : w10.heap.size ≤ b13 := by rw [hwb.hb]; exact hEd.size
          (try have hne : b12 ≠ b13 := by have := (Array.getElem?_eq_some_iff.1 h12).1; have := hwb.hb; omega)
          (try have hA1 := hx.blk hA1 (fun h => h))
          (try have hA2 := hx.blk hA2 (fun h => h))
          (try have hB1 := hx.blk hB1 (fun h => h))
          (try have hB2 := hx.blk hB2 (fun h => h))
          (try have h12 := hx.blk h12 (fun h => h))
          (try have h13 := hx.blk h13 (fun h => h))
          have h1 := h1.ext hx
          have h2 := h2.ext hx
          have hS := hx.blk hS (fun h => h)
          have hEd := hEd.trans hx
          have h13 := hwb.blk
          refine ⟨hS, ?_⟩
          (conv => whnf)
          refine ⟨?_, trivial⟩
          intro b12 wb hwb
          have hx := hwb.chg No
          have hl12 : w10.heap.size ≤ b12 := by rw [hwb.hb]; exact hEd.size
          (try have hne : b12 ≠ b13 := by have := (Array.getElem?_eq_some_iff.1 h13).1; have := hwb.hb; omega)
          (try have hA1 := hx.blk hA1 (fun h => h))
          (try have hA2 := hx.blk hA2 (fun h => h))
          (try have hB1 := hx.blk hB1 (fun h => h))
          (try have hB2 := hx.blk hB2 (fun h => h))
          (try have h12 := hx.blk h12 (fun h => h))
          (try have h13 := hx.blk h13 (fun h => h))
          have h1 := h1.ext hx
          have h2 := h2.ext hx
          have hS := hx.blk hS (fun h => h)
          have hEd := hEd.trans hx
          have h12 := hwb.blk
          refine ⟨hS, ?_⟩
          (conv => whnf)
          refine ⟨?_, trivial⟩
          obtain ⟨wy, hry, h12y, hCy⟩ := store_blk (P := Tryz.prog) (vs := [.map (some a1), .map (some a2)]) h12 rfl (by intro v hv; simp at hv; rcases hv with rfl | rfl <;> rfl)
          refine ⟨rfl, wy, hry, ?_⟩
          have hEd := hEd.then hCy fun i hi e => by omega
          have hA1 := hCy.blk hA1 (fun e => by rw [e, h12] at hA1; cases hA1)
          have hA2 := hCy.blk hA2 (fun e => by rw [e, h12] at hA2; cases hA2)
          have hB1 := hCy.blk hB1 (fun e => by rw [e, h12] at hB1; cases hB1)
          have hB2 := hCy.blk hB2 (fun e => by rw [e, h12] at hB2; cases hB2)
          have h13 := hCy.blk h13 (fun e => hne e.symm)
          have hS := hCy.blk hS (by omega)
          refine ⟨hS, ?_⟩
          (conv => whnf)
          refine ⟨?_, trivial⟩
          obtain ⟨wz, hrz, h13z, hCz⟩ := store_blk (P := Tryz.prog) (vs := [.map (some d1), .map (some d2)]) h13 rfl (by intro v hv; simp at hv; rcases hv with rfl | rfl <;> rfl)
          refine ⟨rfl, wz, hrz, ?_⟩
          have hEd := hEd.then hCz fun i hi e => by omega
          have hA1 := hCz.blk hA1 (fun e => by rw [e, h13] at hA1; cases hA1)
          have hA2 := hCz.blk hA2 (fun e => by rw [e, h13] at hA2; cases hA2)
          have hB1 := hCz.blk hB1 (fun e => by rw [e, h13] at hB1; cases hB1)
          have hB2 := hCz.blk hB2 (fun e => by rw [e, h13] at hB2; cases hB2)
          have h12z := hCz.blk h12y hne
          refine ⟨hCz.blk hS (by omega), ?_⟩
          (conv => whnf)
          exact ⟨rfl, b12, b13, a1, a2, d1, d2, rfl, h12z, h13z, hA1, hA2, hB1, hB2, hEd⟩
      · intro b12 wb hwb
        have hx := hwb.chg No
        have hl12 : w10.heap.size ≤ b12 := by rw [hwb.hb]; exact hEd.size
        (try have hne : b12 ≠ b13 := by have := (Array.getElem?_eq_some_iff.1 h13).1; have := hwb.hb; omega)
        (try have hA1 := hx.blk hA1 (fun h => h))
        (try have hA2 := hx.blk hA2 (fun h => h))
        (try have hB1 := hx.blk hB1 (fun h => h))
        (try have hB2 := hx.blk hB2 (fun h => h))
        (try have h12 := hx.blk h12 (fun h => h))
        (try have h13 := hx.blk h13 (fun h => h))
        have h1 := h1.ext hx
        have h2 := h2.ext hx
        have hS := hx.blk hS (fun h => h)
        have hEd := hEd.trans hx
        have h12 := hwb.blk
        refine ⟨hS, ?_⟩
        (conv => whnf)
        refine ⟨?_, ?_, trivial⟩
        · refine (tabled _ _ _ _ y2 _ h2 hl2 (fun x hx => ⟨by have := g2.n x hx; omega, hN2 x hx⟩)).call ?_
          rintro _ wa ⟨d1, d2, rfl, hB1', hB2', hx⟩
          (try have hA1 := hx.blk hA1 (fun h => h))
          (try have hA2 := hx.blk hA2 (fun h => h))
          (try have hB1 := hx.blk hB1 (fun h => h))
          (try have hB2 := hx.blk hB2 (fun h => h))
          (try have h12 := hx.blk h12 (fun h => h))
          (try have h13 := hx.blk h13 (fun h => h))
          have h1 := h1.ext hx
          have h2 := h2.ext hx
          have hS := hx.blk hS (fun h => h)
          have hEd := hEd.trans hx
          have hB1 := hB1'
          have hB2 := hB2'
          clear hB1' hB2'
          (conv => whnf)
          refine ⟨hS, ?_⟩
          (conv => whnf)
          refine ⟨?_, trivial⟩
          intro b13 wb hwb
          have hx := hwb.chg No
          have hl13 : w10.heap.size ≤ b13 := by rw [hwb.hb]; exact hEd.size
          (try have hne : b12 ≠ b13 := by have := (Array.getElem?_eq_some_iff.1 h12).1; have := hwb.hb; omega)
          (try have hA1 := hx.blk hA1 (fun h => h))
          (try have hA2 := hx.blk hA2 (fun h => h))
          (try have hB1 := hx.blk hB1 (fun h => h))
          (try have hB2 := hx.blk hB2 (fun h => h))
          (try have h12 := hx.blk h12 (fun h => h))
          (try have h13 := hx.blk h13 (fun h => h))
          have h1 := h1.ext hx
          have h2 := h2.ext hx
          have hS := hx.blk hS (fun h => h)
          have hEd := hEd.trans hx
          have h13 := hwb.blk
          refine ⟨hS, ?_⟩
          (conv => whnf)
          refine ⟨?_, trivial⟩
          obtain ⟨wy, hry, h12y, hCy⟩ := store_blk (P := Tryz.prog) (vs := [.map (some a1), .map (some a2)]) h12 rfl (by intro v hv; simp at hv; rcases hv with rfl | rfl <;> rfl)
          refine ⟨rfl, wy, hry, ?_⟩
          have hEd := hEd.then hCy fun i hi e => by omega
          have hA1 := hCy.blk hA1 (fun e => by rw [e, h12] at hA1; cases hA1)
          have hA2 := hCy.blk hA2 (fun e => by rw [e, h12] at hA2; cases hA2)
          have hB1 := hCy.blk hB1 (fun e => by rw [e, h12] at hB1; cases hB1)
          have hB2 := hCy.blk hB2 (fun e => by rw [e, h12] at hB2; cases hB2)
          have h13 := hCy.blk h13 (fun e => hne e.symm)
          have hS := hCy.blk hS (by omega)
          refine ⟨hS, ?_⟩
          (conv => whnf)
          refine ⟨?_, trivial⟩
          obtain ⟨wz, hrz, h13z, hCz⟩ := store_blk (P := Tryz.prog) (vs := [.map (some d1), .map (some d2)]) h13 rfl (by intro v hv; simp at hv; rcases hv with rfl | rfl <;> rfl)
          refine ⟨rfl, wz, hrz, ?_⟩
          have hEd := hEd.then hCz fun i hi e => by omega
          have hA1 := hCz.blk hA1 (fun e => by rw [e, h13] at hA1; cases hA1)
          have hA2 := hCz.blk hA2 (fun e => by rw [e, h13] at hA2; cases hA2)
          have hB1 := hCz.blk hB1 (fun e => by rw [e, h13] at hB1; cases hB1)
          have hB2 := hCz.blk hB2 (fun e => by rw [e, h13] at hB2; cases hB2)
          have h12z := hCz.blk h12y hne
          refine ⟨hCz.blk hS (by omega), ?_⟩
          (conv => whnf)
          exact ⟨rfl, b12, b13, a1, a2, d1, d2, rfl, h12z, h13z, hA1, hA2, hB1, hB2, hEd⟩
        · intro b13 wb hwb
          have hx := hwb.chg No
          have hl13 : w10.heap.size ≤ b13 := by rw [hwb.hb]; exact hEd.size
          (try have hne : b12 ≠ b13 := by have := (Array.getElem?_eq_some_iff.1 h12).1; have := hwb.hb; omega)
          (try have hA1 := hx.blk hA1 (fun h => h))
          (try have hA2 := hx.blk hA2 (fun h => h))
          (try have hB1 := hx.blk hB1 (fun h => h))
          (try have hB2 := hx.blk hB2 (fun h => h))
          (try have h12 := hx.blk h12 (fun h => h))
          (try have h13 := hx.blk h13 (fun h => h))
          have h1 := h1.ext hx
          have h2 := h2.ext hx
          have hS := hx.blk hS (fun h => h)
          have hEd := hEd.trans hx
          have h13 := hwb.blk
          refine ⟨hS, ?_⟩
          (conv => whnf)
          refine ⟨?_, trivial⟩
          refine (tabled _ _ _ _ y2 _ h2 hl2 (fun x hx => ⟨by have := g2.n x hx; omega, hN2 x hx⟩)).call ?_
          rintro _ wa ⟨d1, d2, rfl, hB1', hB2', hx⟩
          (try have hA1 := hx.blk hA1 (fun h => h))
          (try have hA2 := hx.blk hA2 (fun h => h))
          (try have hB1 := hx.blk hB1 (fun h => h))
          (try have hB2 := hx.blk hB2 (fun h => h))
          (try have h12 := hx.blk h12 (fun h => h))
          (try have h13 := hx.blk h13 (fun h => h))
          have h1 := h1.ext hx
          have h2 := h2.ext hx
          have hS := hx.blk hS (fun h => h)
          have hEd := hEd.trans hx
          have hB1 := hB1'
          have hB2 := hB2'
          clear hB1' hB2'
          (conv => whnf)
          refine ⟨hS, ?_⟩
          (conv => whnf)
          refine ⟨?_, trivial⟩
          obtain ⟨wy, hry, h12y, hCy⟩ := store_blk (P := Tryz.prog) (vs := [.map (some a1), .map (some a2)]) h12 rfl (by intro v hv; simp at hv; rcases hv with rfl | rfl <;> rfl)
          refine ⟨rfl, wy, hry, ?_⟩
          have hEd := hEd.then hCy fun i hi e => by omega
          have hA1 := hCy.blk hA1 (fun e => by rw [e, h12] at hA1; cases hA1)
          have hA2 := hCy.blk hA2 (fun e => by rw [e, h12] at hA2; cases hA2)
          have hB1 := hCy.blk hB1 (fun e => by rw [e, h12] at hB1; cases hB1)
          have hB2 := hCy.blk hB2 (fun e => by rw [e, h12] at hB2; cases hB2)
          have h13 := hCy.blk h13 (fun e => hne e.symm)
          have hS := hCy.blk hS (by omega)
          refine ⟨hS, ?_⟩
          (conv => whnf)
          refine ⟨?_, trivial⟩
          obtain ⟨wz, hrz, h13z, hCz⟩ := store_blk (P := Tryz.prog) (vs := [.map (some d1), .map (some d2)]) h13 rfl (by intro v hv; simp at hv; rcases hv with rfl | rfl <;> rfl)
          refine ⟨rfl, wz, hrz, ?_⟩
          have hEd := hEd.then hCz fun i hi e => by omega
          have hA1 := hCz.blk hA1 (fun e => by rw [e, h13] at hA1; cases hA1)
          have hA2 := hCz.blk hA2 (fun e => by rw [e, h13] at hA2; cases hA2)
          have hB1 := hCz.blk hB1 (fun e => by rw [e, h13] at hB1; cases hB1)
          have hB2 := hCz.blk hB2 (fun e => by rw [e, h13] at hB2; cases hB2)
          have h12z := hCz.blk h12y hne
          refine ⟨hCz.blk hS (by omega), ?_⟩
          (conv => whnf)
          exact ⟨rfl, b12, b13, a1, a2, d1, d2, rfl, h12z, h13z, hA1, hA2, hB1, hB2, hEd⟩
      · intro b13 wb hwb
        have hx := hwb.chg No
        have hl13 : w10.heap.size ≤ b13 := by rw [hwb.hb]; exact hEd.size
        (try have hne : b12 ≠ b13 := by have := (Array.getElem?_eq_some_iff.1 h12).1; have := hwb.hb; omega)
        (try have hA1 := hx.blk hA1 (fun h => h))
        (try have hA2 := hx.blk hA2 (fun h => h))
        (try have hB1 := hx.blk hB1 (fun h => h))
        (try have hB2 := hx.blk hB2 (fun h => h))
        (try have h12 := hx.blk h12 (fun h => h))
        (try have h13 := hx.blk h13 (fun h => h))
        have h1 := h1.ext hx
        have h2 := h2.ext hx
        have hS := hx.blk hS (fun h => h)
        have hEd := hEd.trans hx
        have h13 := hwb.blk
        refine ⟨hS, ?_⟩
        (conv => whnf)
        refine ⟨?_, ?_, trivial⟩
        · refine (tabled _ _ _ _ y2 _ h2 hl2 (fun x hx => ⟨by have := g2.n x hx; omega, hN2 x hx⟩)).call ?_
          rintro _ wa ⟨d1, d2, rfl, hB1', hB2', hx⟩
          (try have hA1 := hx.blk hA1 (fun h => h))
          (try have hA2 := hx.blk hA2 (fun h => h))
          (try have hB1 := hx.blk hB1 (fun h => h))
          (try have hB2 := hx.blk hB2 (fun h => h))
          (try have h12 := hx.blk h12 (fun h => h))
          (try have h13 := hx.blk h13 (fun h => h))
          have h1 := h1.ext hx
          have h2 := h2.ext hx
          have hS := hx.blk hS (fun h => h)
          have hEd := hEd.trans hx
          have hB1 := hB1'
          have hB2 := hB2'
          clear hB1' hB2'
          (conv => whnf)
          refine ⟨hS, ?_⟩
          (conv => whnf)
          refine ⟨?_, trivial⟩
          intro b12 wb hwb
          have hx := hwb.chg No
          have hl12 : w10.heap.size ≤ b12 := by rw [hwb.hb]; exact hEd.size
          (try have hne : b12 ≠ b13 := by have := (Array.getElem?_eq_some_iff.1 h13).1; have := hwb.hb; omega)
          (try have hA1 := hx.blk hA1 (fun h => h))
          (try have hA2 := hx.blk hA2 (fun h => h))
          (try have hB1 := hx.blk hB1 (fun h => h))
          (try have hB2 := hx.blk hB2 (fun h => h))
          (try have h12 := hx.blk h12 (fun h => h))
          (try have h13 := hx.blk h13 (fun h => h))
          have h1 := h1.ext hx
          have h2 := h2.ext hx
          have hS := hx.blk hS (fun h => h)
          have hEd := hEd.trans hx
          have h12 := hwb.blk
          refine ⟨hS, ?_⟩
          (conv => whnf)
          refine ⟨?_, trivial⟩
          obtain ⟨wy, hry, h12y, hCy⟩ := store_blk (P := Tryz.prog) (vs := [.map (some a1), .map (some a2)]) h12 rfl (by intro v hv; simp at hv; rcases hv with rfl | rfl <;> rfl)
          refine ⟨rfl, wy, hry, ?_⟩
          have hEd := hEd.then hCy fun i hi e => by omega
          have hA1 := hCy.blk hA1 (fun e => by rw [e, h12] at hA1; cases hA1)
          have hA2 := hCy.blk hA2 (fun e => by rw [e, h12] at hA2; cases hA2)
          have hB1 := hCy.blk hB1 (fun e => by rw [e, h12] at hB1; cases hB1)
          have hB2 := hCy.blk hB2 (fun e => by rw [e, h12] at hB2; cases hB2)
          have h13 := hCy.blk h13 (fun e => hne e.symm)
          have hS := hCy.blk hS (by omega)
          refine ⟨hS, ?_⟩
          (conv => whnf)
          refine ⟨?_, trivial⟩
          obtain ⟨wz, hrz, h13z, hCz⟩ := store_blk (P := Tryz.prog) (vs := [.map (some d1), .map (some d2)]) h13 rfl (by intro v hv; simp at hv; rcases hv with rfl | rfl <;> rfl)
          refine ⟨rfl, wz, hrz, ?_⟩
          have hEd := hEd.then hCz fun i hi e => by omega
          have hA1 := hCz.blk hA1 (fun e => by rw [e, h13] at hA1; cases hA1)
          have hA2 := hCz.blk hA2 (fun e => by rw [e, h13] at hA2; cases hA2)
          have hB1 := hCz.blk hB1 (fun e => by rw [e, h13] at hB1; cases hB1)
          have hB2 := hCz.blk hB2 (fun e => by rw [e, h13] at hB2; cases hB2)
          have h12z := hCz.blk h12y hne
          refine ⟨hCz.blk hS (by omega), ?_⟩
          (conv => whnf)
          exact ⟨rfl, b12, b13, a1, a2, d1, d2, rfl, h12z, h13z, hA1, hA2, hB1, hB2, hEd⟩
        · intro b12 wb hwb
          have hx := hwb.chg No
          have hl12 : w10.heap.size ≤ b12 := by rw [hwb.hb]; exact hEd.size
          (try have hne : b12 ≠ b13 := by have := (Array.getElem?_eq_some_iff.1 h13).1; have := hwb.hb; omega)
          (try have hA1 := hx.blk hA1 (fun h => h))
          (try have hA2 := hx.blk hA2 (fun h => h))
          (try have hB1 := hx.blk hB1 (fun h => h))
          (try have hB2 := hx.blk hB2 (fun h => h))
          (try have h12 := hx.blk h12 (fun h => h))
          (try have h13 := hx.blk h13 (fun h => h))
          have h1 := h1.ext hx
          have h2 := h2.ext hx
          have hS := hx.blk hS (fun h => h)
          have hEd := hEd.trans hx
          have h12 := hwb.blk
          refine ⟨hS, ?_⟩
          (conv => whnf)
          refine ⟨?_, trivial⟩
          refine (tabled _ _ _ _ y2 _ h2 hl2 (fun x hx => ⟨by have := g2.n x hx; omega, hN2 x hx⟩)).call ?_
          rintro _ wa ⟨d1, d2, rfl, hB1', hB2', hx⟩
          (try have hA1 := hx.blk hA1 (fun h => h))
          (try have hA2 := hx.blk hA2 (fun h => h))
          (try have hB1 := hx.blk hB1 (fun h => h))
          (try have hB2 := hx.blk hB2 (fun h => h))
          (try have h12 := hx.blk h12 (fun h => h))
          (try have h13 := hx.blk h13 (fun h => h))
          have h1 := h1.ext hx
          have h2 := h2.ext hx
          have hS := hx.blk hS (fun h => h)
          have hEd := hEd.trans hx
          have hB1 := hB1'
          have hB2 := hB2'
          clear hB1' hB2'
          (conv => whnf)
          refine ⟨hS, ?_⟩
          (conv => whnf)
          refine ⟨?_, trivial⟩
          obtain ⟨wy, hry, h12y, hCy⟩ := store_blk (P := Tryz.prog) (vs := [.map (some a1), .map (some a2)]) h12 rfl (by intro v hv; simp at hv; rcases hv with rfl | rfl <;> rfl)
          refine ⟨rfl, wy, hry, ?_⟩
          have hEd := hEd.then hCy fun i hi e => by omega
          have hA1 := hCy.blk hA1 (fun e => by rw [e, h12] at hA1; cases hA1)
          have hA2 := hCy.blk hA2 (fun e => by rw [e, h12] at hA2; cases hA2)
          have hB1 := hCy.blk hB1 (fun e => by rw [e, h12] at hB1; cases hB1)
          have hB2 := hCy.blk hB2 (fun e => by rw [e, h12] at hB2; cases hB2)
          have h13 := hCy.blk h13 (fun e => hne e.symm)
          have hS := hCy.blk hS (by omega)
          refine ⟨hS, ?_⟩
          (conv => whnf)
          refine ⟨?_, trivial⟩
          obtain ⟨wz, hrz, h13z, hCz⟩ := store_blk (P := Tryz.prog) (vs := [.map (some d1), .map (some d2)]) h13 rfl (by intro v hv; simp at hv; rcases hv with rfl | rfl <;> rfl)
          refine ⟨rfl, wz, hrz, ?_⟩
          have hEd := hEd.then hCz fun i hi e => by omega
          have hA1 := hCz.blk hA1 (fun e => by rw [e, h13] at hA1; cases hA1)
          have hA2 := hCz.blk hA2 (fun e => by rw [e, h13] at hA2; cases hA2)
          have hB1 := hCz.blk hB1 (fun e => by rw [e, h13] at hB1; cases hB1)
          have hB2 := hCz.blk hB2 (fun e => by rw [e, h13] at hB2; cases hB2)
          have h12z := hCz.blk h12y hne
          refine ⟨hCz.blk hS (by omega), ?_⟩
          (conv => whnf)
          exact ⟨rfl, b12, b13, a1, a2, d1, d2, rfl, h12z, h13z, hA1, hA2, hB1, hB2, hEd⟩
    · intro b12 wb hwb
      have hx := hwb.chg No
      have hl12 : w10.heap.size ≤ b12 := by rw [hwb.hb]; exact hEd.size
      (try have hne : b12 ≠ b13 := by have := (Array.getElem?_eq_some_iff.1 h13).1; have := hwb.hb; omega)
      (try have hA1 := hx.blk hA1 (fun h => h))
      (try have hA2 := hx.blk hA2 (fun h => h))
      (try have hB1 := hx.blk hB1 (fun h => h))
      (try have hB2 := hx.blk hB2 (fun h => h))
      (try have h12 := hx.blk h12 (fun h => h))
      (try have h13 := hx.blk h13 (fun h => h))
      have h1 := h1.ext hx
      have h2 := h2.ext hx
      have hS := hx.blk hS (fun h => h)
      have hEd := hEd.trans hx
      have h12 := hwb.blk
      refine ⟨hS, ?_⟩
      (conv => whnf)
      refine ⟨?_, ?_, trivial⟩
      · refine (tabled _ _ _ _ y1 _ h1 hl1 (fun x hx => ⟨by have := g1.n x hx; omega, hN1 x hx⟩)).call ?_
        rintro _ wa ⟨a1, a2, rfl, hA1', hA2', hx⟩
        (try have hA1 := hx.blk hA1 (fun h => h))
        (try have hA2 := hx.blk hA2 (fun h => h))
        (try have hB1 := hx.blk hB1 (fun h => h))
        (try have hB2 := hx.blk hB2 (fun h => h))
        (try have h12 := hx.blk h12 (fun h => h))
        (try have h13 := hx.blk h13 (fun h => h))
        have h1 := h1.ext hx
        have h2 := h2.ext hx
        have hS := hx.blk hS (fun h => h)
        have hEd := hEd.trans hx
        have hA1 := hA1'
        have hA2 := hA2'
        clear hA1' hA2'
        (conv => whnf)
        refine ⟨hS, ?_⟩
        (conv => whnf)
        refine ⟨?_, ?_, trivial⟩
        · refine (tabled _ _ _ _ y2 _ h2 hl2 (fun x hx => ⟨by have := g2.n x hx; omega, hN2 x hx⟩)).call ?_
          rintro _ wa ⟨d1, d2, rfl, hB1', hB2', hx⟩
          (try have hA1 := hx.blk hA1 (fun h => h))
          (try have hA2 := hx.blk hA2 (fun h => h))
          (try have hB1 := hx.blk hB1 (fun h => h))
          (try have hB2 := hx.blk hB2 (fun h => h))
          (try have h12 := hx.blk h12 (fun h => h))
          (try have h13 := hx.blk h13 (fun h => h))
          have h1 := h1.ext hx
          have h2 := h2.ext hx
          have hS := hx.blk hS (fun h => h)
          have hEd := hEd.trans hx
          have hB1 := hB1'
          have hB2 := hB2'
          clear hB1' hB2'
          (conv => whnf)
          refine ⟨hS, ?_⟩
          (conv => whnf)
          refine ⟨?_, trivial⟩
          intro b13 wb hwb
          have hx := hwb.chg No
          have hl13 : w10.heap.size ≤ b13 := by rw [hwb.hb]; exact hEd.size
          (try have hne : b12 ≠ b13 := by have := (Array.getElem?_eq_some_iff.1 h12).1; have := hwb.hb; omega)
          (try have hA1 := hx.blk hA1 (fun h => h))
          (try have hA2 := hx.blk hA2 (fun h => h))
          (try have hB1 := hx.blk hB1 (fun h => h))
          (try have hB2 := hx.blk hB2 (fun h => h))
          (try have h12 := hx.blk h12 (fun h => h))
          (try have h13 := hx.blk h13 (fun h => h))
          have h1 := h1.ext hx
          have h2 := h2.ext hx
          have hS := hx.blk hS (fun h => h)
          have hEd := hEd.trans hx
          have h13 := hwb.blk
          refine ⟨hS, ?_⟩
          (conv => whnf)
          refine ⟨?_, trivial⟩
          obtain ⟨wy, hry, h12y, hCy⟩ := store_blk (P := Tryz.prog) (vs := [.map (some a1), .map (some a2)]) h12 rfl (by intro v hv; simp at hv; rcases hv with rfl | rfl <;> rfl)
          refine ⟨rfl, wy, hry, ?_⟩
          have hEd := hEd.then hCy fun i hi e => by omega
          have hA1 := hCy.blk hA1 (fun e => by rw [e, h12] at hA1; cases hA1)
          have hA2 := hCy.blk hA2 (fun e => by rw [e, h12] at hA2; cases hA2)
          have hB1 := hCy.blk hB1 (fun e => by rw [e, h12] at hB1; cases hB1)
          have hB2 := hCy.blk hB2 (fun e => by rw [e, h12] at hB2; cases hB2)
          have h13 := hCy.blk h13 (fun e => hne e.symm)
          have hS := hCy.blk hS (by omega)
          refine ⟨hS, ?_⟩
          (conv => whnf)
          refine ⟨?_, trivial⟩
          obtain ⟨wz, hrz, h13z, hCz⟩ := store_blk (P := Tryz.prog) (vs := [.map (some d1), .map (some d2)]) h13 rfl (by intro v hv; simp at hv; rcases hv with rfl | rfl <;> rfl)
          refine ⟨rfl, wz, hrz, ?_⟩
          have hEd := hEd.then hCz fun i hi e => by omega
          have hA1 := hCz.blk hA1 (fun e => by rw [e, h13] at hA1; cases hA1)
          have hA2 := hCz.blk hA2 (fun e => by rw [e, h13] at hA2; cases hA2)
          have hB1 := hCz.blk hB1 (fun e => by rw [e, h13] at hB1; cases hB1)
          have hB2 := hCz.blk hB2 (fun e => by rw [e, h13] at hB2; cases hB2)
          have h12z := hCz.blk h12y hne
          refine ⟨hCz.blk hS (by omega), ?_⟩
          (conv => whnf)
          exact ⟨rfl, b12, b13, a1, a2, d1, d2, rfl, h12z, h13z, hA1, hA2, hB1, hB2, hEd⟩
        · intro b13 wb hwb
          have hx := hwb.chg No
          have hl13 : w10.heap.size ≤ b13 := by rw [hwb.hb]; exact hEd.size
          (try have hne : b12 ≠ b13 := by have := (Array.getElem?_eq_some_iff.1 h12).1; have := hwb.hb; omega)
          (try have hA1 := hx.blk hA1 (fun h => h))
          (try have hA2 := hx.blk hA2 (fun h => h))
          (try have hB1 := hx.blk hB1 (fun h => h))
          (try have hB2 := hx.blk hB2 (fun h => h))
          (try have h12 := hx.blk h12 (fun h => h))
          (try have h13 := hx.blk h13 (fun h => h))
          have h1 := h1.ext hx
          have h2 := h2.ext hx
          have hS := hx.blk hS (fun h => h)
          have hEd := hEd.trans hx
          have h13 := hwb.blk
          refine ⟨hS, ?_⟩
          (conv => whnf)
          refine ⟨?_, trivial⟩
          refine (tabled _ _ _ _ y2 _ h2 hl2 (fun x hx => ⟨by have := g2.n x hx; omega, hN2 x hx⟩)).call ?_
          rintro _ wa ⟨d1, d2, rfl, hB1', hB2', hx⟩
          (try have hA1 := hx.blk hA1 (fun h => h))
          (try have hA2 := hx.blk hA2 (fun h => h))
          (try have hB1 := hx.blk hB1 (fun h => h))
          (try have hB2 := hx.blk hB2 (fun h => h))
          (try have h12 := hx.blk h12 (fun h => h))
          (try have h13 := hx.blk h13 (fun h => h))
          have h1 := h1.ext hx
          have h2 := h2.ext hx
          have hS := hx.blk hS (fun h => h)
          have hEd := hEd.trans hx
          have hB1 := hB1'
          have hB2 := hB2'
          clear hB1' hB2'
          (conv => whnf)
          refine ⟨hS, ?_⟩
          (conv => whnf)
          refine ⟨?_, trivial⟩
          obtain ⟨wy, hry, h12y, hCy⟩ := store_blk (P := Tryz.prog) (vs := [.map (some a1), .map (some a2)]) h12 rfl (by intro v hv; simp at hv; rcases hv with rfl | rfl <;> rfl)
          refine ⟨rfl, wy, hry, ?_⟩
          have hEd := hEd.then hCy fun i hi e => by omega
          have hA1 := hCy.blk hA1 (fun e => by rw [e, h12] at hA1; cases hA1)
          have hA2 := hCy.blk hA2 (fun e => by rw [e, h12] at hA2; cases hA2)
          have hB1 := hCy.blk hB1 (fun e => by rw [e, h12] at hB1; cases hB1)
          have hB2 := hCy.blk hB2 (fun e => by rw [e, h12] at hB2; cases hB2)
          have h13 := hCy.blk h13 (fun e => hne e.symm)
          have hS := hCy.blk hS (by omega)
          refine ⟨hS, ?_⟩
          (conv => whnf)
          refine ⟨?_, trivial⟩
          obtain ⟨wz, hrz, h13z, hCz⟩ := store_blk (P := Tryz.prog) (vs := [.map (some d1), .map (some d2)]) h13 rfl (by intro v hv; simp at hv; rcases hv with rfl | rfl <;> rfl)
          refine ⟨rfl, wz, hrz, ?_⟩
          have hEd := hEd.then hCz fun i hi e => by omega
          have hA1 := hCz.blk hA1 (fun e => by rw [e, h13] at hA1; cases hA1)
          have hA2 := hCz.blk hA2 (fun e => by rw [e, h13] at hA2; cases hA2)
          have hB1 := hCz.blk hB1 (fun e => by rw [e, h13] at hB1; cases hB1)
          have hB2 := hCz.blk hB2 (fun e => by rw [e, h13] at hB2; cases hB2)
          have h12z := hCz.blk h12y hne
          refine ⟨hCz.blk hS (by omega), ?_⟩
          (conv => whnf)
          exact ⟨rfl, b12, b13, a1, a2, d1, d2, rfl, h12z, h13z, hA1, hA2, hB1, hB2, hEd⟩
      · intro b13 wb hwb
        have hx := hwb.chg No
        have hl13 : w10.heap.size ≤ b13 := by rw [hwb.hb]; exact hEd.size
        (try have hne : b12 ≠ b13 := by have := (Array.getElem?_eq_some_iff.1 h12).1; have := hwb.hb; omega)
        (try have hA1 := hx.blk hA1 (fun h => h))
        (try have hA2 := hx.blk hA2 (fun h => h))
        (try have hB1 := hx.blk hB1 (fun h => h))
        (try have hB2 := hx.blk hB2 (fun h => h))
        (try have h12 := hx.blk h12 (fun h => h))
        (try have h13 := hx.blk h13 (fun h => h))
        have h1 := h1.ext hx
        have h2 := h2.ext hx
        have hS := hx.blk hS (fun h => h)
        have hEd := hEd.trans hx
        have h13 := hwb.blk
        refine ⟨hS, ?_⟩
        (conv => whnf)
        refine ⟨?_, trivial⟩
        refine (tabled _ _ _ _ y1 _ h1 hl1 (fun x hx => ⟨by have := g1.n x hx; omega, hN1 x hx⟩)).call ?_
        rintro _ wa ⟨a1, a2, rfl, hA1', hA2', hx⟩
        (try have hA1 := hx.blk hA1 (fun h => h))
        (try have hA2 := hx.blk hA2 (fun h => h))
        (try have hB1 := hx.blk hB1 (fun h => h))
        (try have hB2 := hx.blk hB2 (fun h => h))
        (try have h12 := hx.blk h12 (fun h => h))
        (try have h13 := hx.blk h13 (fun h => h))
        have h1 := h1.ext hx
        have h2 := h2.ext hx
        have hS := hx.blk hS (fun h => h)
        have hEd := hEd.trans hx
        have hA1 := hA1'
        have hA2 := hA2'
        clear hA1' hA2'
        (conv => whnf)
        refine ⟨hS, ?_⟩
        (conv => whnf)
        refine ⟨?_, trivial⟩
        refine (tabled _ _ _ _ y2 _ h2 hl2 (fun x hx => ⟨by have := g2.n x hx; omega, hN2 x hx⟩)).call ?_
        rintro _ wa ⟨d1, d2, rfl, hB1', hB2', hx⟩
        (try have hA1 := hx.blk hA1 (fun h => h))
        (try have hA2 := hx.blk hA2 (fun h => h))
        (try have hB1 := hx.blk hB1 (fun h => h))
        (try have hB2 := hx.blk hB2 (fun h => h))
        (try have h12 := hx.blk h12 (fun h => h))
        (try have h13 := hx.blk h13 (fun h => h))
        have h1 := h1.ext hx
        have h2 := h2.ext hx
        have hS := hx.blk hS (fun h => h)
        have hEd := hEd.trans hx
        have hB1 := hB1'
        have hB2 := hB2'
        clear hB1' hB2'
        (conv => whnf)
        refine ⟨hS, ?_⟩
        (conv => whnf)
        refine ⟨?_, trivial⟩
        obtain ⟨wy, hry, h12y, hCy⟩ := store_blk (P := Tryz.prog) (vs := [.map (some a1), .map (some a2)]) h12 rfl (by intro v hv; simp at hv; rcases hv with rfl | rfl <;> rfl)
        refine ⟨rfl, wy, hry, ?_⟩
        have hEd := hEd.then hCy fun i hi e => by omega
        have hA1 := hCy.blk hA1 (fun e => by rw [e, h12] at hA1; cases hA1)
        have hA2 := hCy.blk hA2 (fun e => by rw [e, h12] at hA2; cases hA2)
        have hB1 := hCy.blk hB1 (fun e => by rw [e, h12] at hB1; cases hB1)
        have hB2 := hCy.blk hB2 (fun e => by rw [e, h12] at hB2; cases hB2)
        have h13 := hCy.blk h13 (fun e => hne e.symm)
        have hS := hCy.blk hS (by omega)
        refine ⟨hS, ?_⟩
        (conv => whnf)
        refine ⟨?_, trivial⟩
        obtain ⟨wz, hrz, h13z, hCz⟩ := store_blk (P := Tryz.prog) (vs := [.map (some d1), .map (some d2)]) h13 rfl (by intro v hv; simp at hv; rcases hv with rfl | rfl <;> rfl)
        refine ⟨rfl, wz, hrz, ?_⟩
        have hEd := hEd.then hCz fun i hi e => by omega
        have hA1 := hCz.blk hA1 (fun e => by rw [e, h13] at hA1; cases hA1)
        have hA2 := hCz.blk hA2 (fun e => by rw [e, h13] at hA2; cases hA2)
        have hB1 := hCz.blk hB1 (fun e => by rw [e, h13] at hB1; cases hB1)
        have hB2 := hCz.blk hB2 (fun e => by rw [e, h13] at hB2; cases hB2)
        have h12z := hCz.blk h12y hne
        refine ⟨hCz.blk hS (by omega), ?_⟩
        (conv => whnf)
        exact ⟨rfl, b12, b13, a1, a2, d1, d2, rfl, h12z, h13z, hA1, hA2, hB1, hB2, hEd⟩
    · intro b13 wb hwb
      have hx := hwb.chg No
      have hl13 : w10.heap.size ≤ b13 := by rw [hwb.hb]; exact hEd.size
      (try have hne : b12 ≠ b13 := by have := (Array.getElem?_eq_some_iff.1 h12).1; have := hwb.hb; omega)
      (try have hA1 := hx.blk hA1 (fun h => h))
      (try have hA2 := hx.blk hA2 (fun h => h))
      (try have hB1 := hx.blk hB1 (fun h => h))
      (try have hB2 := hx.blk hB2 (fun h => h))
      (try have h12 := hx.blk h12 (fun h => h))
      (try have h13 := hx.blk h13 (fun h => h))
      have h1 := h1.ext hx
      have h2 := h2.ext hx
      have hS := hx.blk hS (fun h => h)
      have hEd := hEd.trans hx
      have h13 := hwb.blk
      refine ⟨hS, ?_⟩
      (conv => whnf)
      refine ⟨?_, ?_, trivial⟩
      · refine (tabled _ _ _ _ y1 _ h1 hl1 (fun x hx => ⟨by have := g1.n x hx; omega, hN1 x hx⟩)).call ?_
        rintro _ wa ⟨a1, a2, rfl, hA1', hA2', hx⟩
        (try have hA1 := hx.blk hA1 (fun h => h))
        (try have hA2 := hx.blk hA2 (fun h => h))
        (try have hB1 := hx.blk hB1 (fun h => h))
        (try have hB2 := hx.blk hB2 (fun h => h))
        (try have h12 := hx.blk h12 (fun h => h))
        (try have h13 := hx.blk h13 (fun h => h))
        have h1 := h1.ext hx
        have h2 := h2.ext hx
        have hS := hx.blk hS (fun h => h)
        have hEd := hEd.trans hx
        have hA1 := hA1'
        have hA2 := hA2'
        clear hA1' hA2'
        (conv => whnf)
        refine ⟨hS, ?_⟩
        (conv => whnf)
        refine ⟨?_, ?_, trivial⟩
        · refine (tabled _ _ _ _ y2 _ h2 hl2 (fun x hx => ⟨by have := g2.n x hx; omega, hN2 x hx⟩)).call ?_
          rintro _ wa ⟨d1, d2, rfl, hB1', hB2', hx⟩
          (try have hA1 := hx.blk hA1 (fun h => h))
          (try have hA2 := hx.blk hA2 (fun h => h))
          (try have hB1 := hx.blk hB1 (fun h => h))
          (try have hB2 := hx.blk hB2 (fun h => h))
          (try have h12 := hx.blk h12 (fun h => h))
          (try have h13 := hx.blk h13 (fun h => h))
          have h1 := h1.ext hx
          have h2 := h2.ext hx
          have hS := hx.blk hS (fun h => h)
          have hEd := hEd.trans hx
          have hB1 := hB1'
          have hB2 := hB2'
          clear hB1' hB2'
          (conv => whnf)
          refine ⟨hS, ?_⟩
          (conv => whnf)
          refine ⟨?_, trivial⟩
          intro b12 wb hwb
          have hx := hwb.chg No
          have hl12 : w10.heap.size ≤ b12 := by rw [hwb.hb]; exact hEd.size
          (try have hne : b12 ≠ b13 := by have := (Array.getElem?_eq_some_iff.1 h13).1; have := hwb.hb; omega)
          (try have hA1 := hx.blk hA1 (fun h => h))
          (try have hA2 := hx.blk hA2 (fun h => h))
          (try have hB1 := hx.blk hB1 (fun h => h))
          (try have hB2 := hx.blk hB2 (fun h => h))
          (try have h12 := hx.blk h12 (fun h => h))
          (try have h13 := hx.blk h13 (fun h => h))
          have h1 := h1.ext hx
          have h2 := h2.ext hx
          have hS := hx.blk hS (fun h => h)
          have hEd := hEd.trans hx
          have h12 := hwb.blk
          refine ⟨hS, ?_⟩
          (conv => whnf)
          refine ⟨?_, trivial⟩
          obtain ⟨wy, hry, h12y, hCy⟩ := store_blk (P := Tryz.prog) (vs := [.map (some a1), .map (some a2)]) h12 rfl (by intro v hv; simp at hv; rcases hv with rfl | rfl <;> rfl)
          refine ⟨rfl, wy, hry, ?_⟩
          have hEd := hEd.then hCy fun i hi e => by omega
          have hA1 := hCy.blk hA1 (fun e => by rw [e, h12] at hA1; cases hA1)
          have hA2 := hCy.blk hA2 (fun e => by rw [e, h12] at hA2; cases hA2)
          have hB1 := hCy.blk hB1 (fun e => by rw [e, h12] at hB1; cases hB1)
          have hB2 := hCy.blk hB2 (fun e => by rw [e, h12] at hB2; cases hB2)
          have h13 := hCy.blk h13 (fun e => hne e.symm)
          have hS := hCy.blk hS (by omega)
          refine ⟨hS, ?_⟩
          (conv => whnf)
          refine ⟨?_, trivial⟩
          obtain ⟨wz, hrz, h13z, hCz⟩ := store_blk (P := Tryz.prog) (vs := [.map (some d1), .map (some d2)]) h13 rfl (by intro v hv; simp at hv; rcases hv with rfl | rfl <;> rfl)
          refine ⟨rfl, wz, hrz, ?_⟩
          have hEd := hEd.then hCz fun i hi e => by omega
          have hA1 := hCz.blk hA1 (fun e => by rw [e, h13] at hA1; cases hA1)
          have hA2 := hCz.blk hA2 (fun e => by rw [e, h13] at hA2; cases hA2)
          have hB1 := hCz.blk hB1 (fun e => by rw [e, h13] at hB1; cases hB1)
          have hB2 := hCz.blk hB2 (fun e => by rw [e, h13] at hB2; cases hB2)
          have h12z := hCz.blk h12y hne
          refine ⟨hCz.blk hS (by omega), ?_⟩
          (conv => whnf)
          exact ⟨rfl, b12, b13, a1, a2, d1, d2, rfl, h12z, h13z, hA1, hA2, hB1, hB2, hEd⟩
        · intro b12 wb hwb
          have hx := hwb.chg No
          have hl12 : w10.heap.size ≤ b12 := by rw [hwb.hb]; exact hEd.size
          (try have hne : b12 ≠ b13 := by have := (Array.getElem?_eq_some_iff.1 h13).1; have := hwb.hb; omega)
          (try have hA1 := hx.blk hA1 (fun h => h))
          (try have hA2 := hx.blk hA2 (fun h => h))
          (try have hB1 := hx.blk hB1 (fun h => h))
          (try have hB2 := hx.blk hB2 (fun h => h))
          (try have h12 := hx.blk h12 (fun h => h))
          (try have h13 := hx.blk h13 (fun h => h))
          have h1 := h1.ext hx
          have h2 := h2.ext hx
          have hS := hx.blk hS (fun h => h)
          have hEd := hEd.trans hx
          have h12 := hwb.blk
          refine ⟨hS, ?_⟩
          (conv => whnf)
          refine ⟨?_, trivial⟩
          refine (tabled _ _ _ _ y2 _ h2 hl2 (fun x hx => ⟨by have := g2.n x hx; omega, hN2 x hx⟩)).call ?_
          rintro _ wa ⟨d1, d2, rfl, hB1', hB2', hx⟩
          (try have hA1 := hx.blk hA1 (fun h => h))
          (try have hA2 := hx.blk hA2 (fun h => h))
          (try have hB1 := hx.blk hB1 (fun h => h))
          (try have hB2 := hx.blk hB2 (fun h => h))
          (try have h12 := hx.blk h12 (fun h => h))
          (try have h13 := hx.blk h13 (fun h => h))
          have h1 := h1.ext hx
          have h2 := h2.ext hx
          have hS := hx.blk hS (fun h => h)
          have hEd := hEd.trans hx
          have hB1 := hB1'
          have hB2 := hB2'
          clear hB1' hB2'
          (conv => whnf)
          refine ⟨hS, ?_⟩
          (conv => whnf)
          refine ⟨?_, trivial⟩
          obtain ⟨wy, hry, h12y, hCy⟩ := store_blk (P := Tryz.prog) (vs := [.map (some a1), .map (some a2)]) h12 rfl (by intro v hv; simp at hv; rcases hv with rfl | rfl <;> rfl)
          refine ⟨rfl, wy, hry, ?_⟩
          have hEd := hEd.then hCy fun i hi e => by omega
          have hA1 := hCy.blk hA1 (fun e => by rw [e, h12] at hA1; cases hA1)
          have hA2 := hCy.blk hA2 (fun e => by rw [e, h12] at hA2; cases hA2)
          have hB1 := hCy.blk hB1 (fun e => by rw [e, h12] at hB1; cases hB1)
          have hB2 := hCy.blk hB2 (fun e => by rw [e, h12] at hB2; cases hB2)
          have h13 := hCy.blk h13 (fun e => hne e.symm)
          have hS := hCy.blk hS (by omega)
          refine ⟨hS, ?_⟩
          (conv => whnf)
          refine ⟨?_, trivial⟩
          obtain ⟨wz, hrz, h13z, hCz⟩ := store_blk (P := Tryz.prog) (vs := [.map (some d1), .map (some d2)]) h13 rfl (by intro v hv; simp at hv; rcases hv with rfl | rfl <;> rfl)
          refine ⟨rfl, wz, hrz, ?_⟩
          have hEd := hEd.then hCz fun i hi e => by omega
          have hA1 := hCz.blk hA1 (fun e => by rw [e, h13] at hA1; cases hA1)
          have hA2 := hCz.blk hA2 (fun e => by rw [e, h13] at hA2; cases hA2)
          have hB1 := hCz.blk hB1 (fun e => by rw [e, h13] at hB1; cases hB1)
          have hB2 := hCz.blk hB2 (fun e => by rw [e, h13] at hB2; cases hB2)
          have h12z := hCz.blk h12y hne
          refine ⟨hCz.blk hS (by omega), ?_⟩
          (conv => whnf)
          exact ⟨rfl, b12, b13, a1, a2, d1, d2, rfl, h12z, h13z, hA1, hA2, hB1, hB2, hEd⟩
      · intro b12 wb hwb
        have hx := hwb.chg No
        have hl12 : w10.heap.size ≤ b12 := by rw [hwb.hb]; exact hEd.size
        (try have hne : b12 ≠ b13 := by have := (Array.getElem?_eq_some_iff.1 h13).1; have := hwb.hb; omega)
        (try have hA1 := hx.blk hA1 (fun h => h))
        (try have hA2 := hx.blk hA2 (fun h => h))
        (try have hB1 := hx.blk hB1 (fun h => h))
        (try have hB2 := hx.blk hB2 (fun h => h))
        (try have h12 := hx.blk h12 (fun h => h))
        (try have h13 := hx.blk h13 (fun h => h))
        have h1 := h1.ext hx
        have h2 := h2.ext hx
        have hS := hx.blk hS (fun h => h)
        have hEd := hEd.trans hx
        have h12 := hwb.blk
        refine ⟨hS, ?_⟩
        (conv => whnf)
        refine ⟨?_, trivial⟩
        refine (tabled _ _ _ _ y1 _ h1 hl1 (fun x hx => ⟨by have := g1.n x hx; omega, hN1 x hx⟩)).call ?_
        rintro _ wa ⟨a1, a2, rfl, hA1', hA2', hx⟩
        (try have hA1 := hx.blk hA1 (fun h => h))
        (try have hA2 := hx.blk hA2 (fun h => h))
        (try have hB1 := hx.blk hB1 (fun h => h))
        (try have hB2 := hx.blk hB2 (fun h => h))
        (try have h12 := hx.blk h12 (fun h => h))
        (try have h13 := hx.blk h13 (fun h => h))
        have h1 := h1.ext hx
        have h2 := h2.ext hx
        have hS := hx.blk hS (fun h => h)
        have hEd := hEd.trans hx
        have hA1 := hA1'
        have hA2 := hA2'
        clear hA1' hA2'
        (conv => whnf)
        refine ⟨hS, ?_⟩
        (conv => whnf)
        refine ⟨?_, trivial⟩
        refine (tabled _ _ _ _ y2 _ h2 hl2 (fun x hx => ⟨by have := g2.n x hx; omega, hN2 x hx⟩)).call ?_
        rintro _ wa ⟨d1, d2, rfl, hB1', hB2', hx⟩
        (try have hA1 := hx.blk hA1 (fun h => h))
        (try have hA2 := hx.blk hA2 (fun h => h))
        (try have hB1 := hx.blk hB1 (fun h => h))
        (try have hB2 := hx.blk hB2 (fun h => h))
        (try have h12 := hx.blk h12 (fun h => h))
        (try have h13 := hx.blk h13 (fun h => h))
        have h1 := h1.ext hx
        have h2 := h2.ext hx
        have hS := hx.blk hS (fun h => h)
        have hEd := hEd.trans hx
        have hB1 := hB1'
        have hB2 := hB2'
        clear hB1' hB2'
        (conv => whnf)
        refine ⟨hS, ?_⟩
        (conv => whnf)
        refine ⟨?_, trivial⟩
        obtain ⟨wy, hry, h12y, hCy⟩ := store_blk (P := Tryz.prog) (vs := [.map (some a1), .map (some a2)]) h12 rfl (by intro v hv; simp at hv; rcases hv with rfl | rfl <;> rfl)
        refine ⟨rfl, wy, hry, ?_⟩
        have hEd := hEd.then hCy fun i hi e => by omega
        have hA1 := hCy.blk hA1 (fun e => by rw [e, h12] at hA1; cases hA1)
        have hA2 := hCy.blk hA2 (fun e => by rw [e, h12] at hA2; cases hA2)
        have hB1 := hCy.blk hB1 (fun e => by rw [e, h12] at hB1; cases hB1)
        have hB2 := hCy.blk hB2 (fun e => by rw [e, h12] at hB2; cases hB2)
        have h13 := hCy.blk h13 (fun e => hne e.symm)
        have hS := hCy.blk hS (by omega)
        refine ⟨hS, ?_⟩
        (conv => whnf)
        refine ⟨?_, trivial⟩
        obtain ⟨wz, hrz, h13z, hCz⟩ := store_blk (P := Tryz.prog) (vs := [.map (some d1), .map (some d2)]) h13 rfl (by intro v hv; simp at hv; rcases hv with rfl | rfl <;> rfl)
        refine ⟨rfl, wz, hrz, ?_⟩
        have hEd := hEd.then hCz fun i hi e => by omega
        have hA1 := hCz.blk hA1 (fun e => by rw [e, h13] at hA1; cases hA1)
        have hA2 := hCz.blk hA2 (fun e => by rw [e, h13] at hA2; cases hA2)
        have hB1 := hCz.blk hB1 (fun e => by rw [e, h13] at hB1; cases hB1)
        have hB2 := hCz.blk hB2 (fun e => by rw [e, h13] at hB2; cases hB2)
        have h12z := hCz.blk h12y hne
        refine ⟨hCz.blk hS (by omega), ?_⟩
        (conv => whnf)
        exact ⟨rfl, b12, b13, a1, a2, d1, d2, rfl, h12z, h13z, hA1, hA2, hB1, hB2, hEd⟩
  rintro _ w11 ⟨b12, b13, a1, a2, d1, d2, rfl, h12, h13, hA1, hA2, hB1, hB2, hE11⟩
  have hb4 := hE11.blk hb4 (fun h => h)
  have hT := hT.ext hE11
  have hW := hW.ext hE11
  have hE011 := hE10.trans hE11
  have hs11 := hE11.size
  clear hE10 hb2 h1 h2
  (conv => whnf)
  refine ⟨_, by rw [addr_add, cell_of_blk hb4]; rfl, ?_⟩
  (conv => whnf)
  refine (cloneS hT (by omega)).call ?_
  intro vc w12 hFc
  (conv => whnf)
  intro bA w13 hwA
  have hFc' := hFc
  (conv => whnf)
  refine kStr_flat.app (x := []) tok rfl rfl rfl rfl rfl hwA hFc' rfl (by omega) (by omega) (fun vL w14 hFL hC14 hoL => ?_)
  clear hwA hFc hFc'
  obtain ⟨AL, cL, rfl, hcL, hmL⟩ := hFL.shape
  have hE14 := hFL.ext
  have hb4 := hE14.blk hb4 (fun h => h)
  have h12 := hE14.blk h12 (fun h => h)
  have h13 := hE14.blk h13 (fun h => h)
  have hA1 := hE14.blk hA1 (fun h => h)
  have hA2 := hE14.blk hA2 (fun h => h)
  have hB1 := hE14.blk hB1 (fun h => h)
  have hB2 := hE14.blk hB2 (fun h => h)
  have hT := hT.ext hE14
  have hW := hW.ext hE14
  have hE014 := hE011.trans hE14
  have hs14 := hE14.size
  have hRL : SlR kStr (New w11) w14 _ _ := hFL.read
  have hLl : (tagsM y1 y2 ++ [[]]).length = (tagsM y1 y2).length + 1 := by simp
  have hb4n : b4 < w.heap.size + 2 := by omega
  clear hE011 hE14 hFL hC14 hoL hE11
  (conv => whnf)
  refine loop_cut tok 4 [96] [1, 4, 12, 13, 14, 94, 95] [] (fun vs w' => ∃ (i : Nat) (vN vE : Value) (SN SE : Nat → Prop), vs = [.int .i64 i] ∧ i ≤ (tagsM y1 y2).length ∧ Chg (fun b => b = b4) w14 w' ∧ w'.heap[b4]? = some (.cells #[.slice AT (tagsM y1 y2).length cT, .slice AW (wordsM y2).length cW, vN, vE] 36 (0, 0)) ∧
      Own (kSl kStr) 23 SN w' vN (((tagsM y1 y2 ++ [[]]).take i).map fun t => (rowR (tabN y1) (tabS y1) t (tagsM y1 y2 ++ [[]]) q).map qtxt) ∧ Own (kSl kStr) 23 SE w' vE (((tagsM y1 y2).take i).map fun t => (rowR (tabN y2) (tabS y2) t (wordsM y2 ++ [[]]) q).map qtxt) ∧
      (∀ b, SN b → w14.heap.size ≤ b ∧ b < w'.heap.size ∧ ¬ SE b) ∧ (∀ b, SE b → w14.heap.size ≤ b ∧ b < w'.heap.size)) (fun vs w => match vs with | [.int _ i] => (tagsM y1 y2).length + 1 - i.toNat | _ => 0)
    (fun vs w' => ∃ (vN vE : Value) (SN SE : Nat → Prop), vs = [] ∧ Chg (fun b => b = b4) w14 w' ∧ w'.heap[b4]? = some (.cells #[.slice AT (tagsM y1 y2).length cT, .slice AW (wordsM y2).length cW, vN, vE] 36 (0, 0)) ∧
      Own (kSl kStr) 23 SN w' vN (nextM y1 y2 q) ∧ Own (kSl kStr) 23 SE w' vE (emitM y1 y2 q) ∧ (∀ b, SN b → w14.heap.size ≤ b) ∧ (∀ b, SE b → w14.heap.size ≤ b)) ?_
  (conv => whnf)
  refine ⟨⟨0, _, _, No, No, rfl, Nat.zero_le _, .refl _ _, hb4, Own.nil _ _ _ _, Own.nil _ _ _ _, fun b h => h.elim, fun b h => h.elim⟩, ?_, ?_⟩
  · rintro _ w15 ⟨i, vN, vE, SN, SE, rfl, hi, hC15, hb415, hON, hOE, hSN, hSE⟩
    have hs15 := hC15.size
    have hne4 : ∀ {b : Nat} {l : Obj}, w14.heap[b]? = some l → (∀ cs t f, l ≠ .cells cs t f) → ¬ b = b4 := fun h1 h2 e => by
      rw [e, hb4] at h1
      exact h2 _ _ _ (Option.some.inj h1).symm
    have hB1w := hB1
    have hB2w := hB2
    have h13w := h13
    have hWw := hW
    have hne4w := @hne4
    have hA1 := hC15.blk hA1 (hne4 hA1 (fun _ _ _ h => by cases h))
    have hA2 := hC15.blk hA2 (hne4 hA2 (fun _ _ _ h => by cases h))
    have hB1 := hC15.blk hB1 (hne4 hB1 (fun _ _ _ h => by cases h))
    have hB2 := hC15.blk hB2 (hne4 hB2 (fun _ _ _ h => by cases h))
    have h12 := hC15.blk h12 (fun e => by rw [e, hb4] at h12; cases h12)
    have h13 := hC15.blk h13 (fun e => by rw [e, hb4] at h13; cases h13)
    have hRL := hRL.chg hC15 (fun b hb e => by have : w11.heap.size ≤ b := hb; omega)
    have hT := hT.keep hC15 (fun b hb => by omega)
    have hW := hW.keep hC15 (fun b hb => by omega)
    have hE0 : Ext w w15 := hE014.then hC15 fun i hi e => by omega
    have hb415' := hb415
    obtain ⟨x, hx⟩ : ∃ x, (tagsM y1 y2 ++ [[]])[i]? = some x := ⟨_, List.getElem?_eq_getElem (by omega)⟩
    obtain ⟨ad, rfl⟩ := hRL.some_ (by omega)
    have hcell : w15.cell? (ad.add ((i : Int).toNat * 1)) = some (.string (str x)) := by
      obtain ⟨ad', cs, he, _, hr, hca⟩ := hRL.get hx
      cases he
      obtain rfl : cs = [.string (str x)] := hr
      rw [Int.toNat_natCast]
      exact cellsAt_zero hca rfl
    have hbS : 0 ≤ getI (tabS y1) x ∧ getI (tabS y1) x ≤ 1000000 := by
      have := tabS_le (M := 1000) (by omega) y1 (fun c hc => ⟨by have := g1.n c hc; omega, hN1 c hc⟩) x
      omega
    have hbN : ∀ b, 0 ≤ getI (tabN y1) (x, b) ∧ getI (tabN y1) (x, b) ≤ 1000 := fun b => tabN_le (M := 1000) (by omega) y1 (fun c hc => ⟨by have := g1.n c hc; omega, hN1 c hc⟩) (x, b)
    have hbS2 : 0 ≤ getI (tabS y2) x ∧ getI (tabS y2) x ≤ 1000000 := by
      have := tabS_le (M := 1000) (by omega) y2 (fun c hc => ⟨by have := g2.n c hc; omega, hN2 c hc⟩) x
      omega
    have hbN2 : ∀ b, 0 ≤ getI (tabN y2) (x, b) ∧ getI (tabN y2) (x, b) ≤ 1000 := fun b => tabN_le (M := 1000) (by omega) y2 (fun c hc => ⟨by have := g2.n c hc; omega, hN2 c hc⟩) (x, b)
    (conv => whnf)
    refine condP_yes (by omega) ?_
    (repeat ((conv => whnf); first | refine numP_i64 (by omega) ?_ | refine numP_u64 (by omega) ?_ | refine numP_u8 (by omega) ?_ | refine Exists.intro _ (And.intro ‹_› ?_) | refine Exists.intro _ (And.intro rfl ?_) | refine And.intro (by omega) (Exists.intro _ (And.intro rfl ?_)) | refine And.intro (by omega) ?_)); (conv => whnf)
    refine ⟨_, rfl, cellsAt_blk h12, ?_⟩
    (conv => whnf)
    refine (row a1 a2 (tabN y1) (tabS y1) x _ _ _ _ (tagsM y1 y2 ++ [[]]) q w15 (hL0.ext hE0) hA1 hA2 hRL (by omega) hq3 hbS hbN).call ?_
    rintro _ w16 ⟨vr, rfl, hFr⟩
    obtain ⟨Br, dr, hvr, _, _⟩ := hFr.shape
    subst hvr
    have hs16 := hFr.ext.size
    have hb416 := hFr.ext.blk hb415 (fun h => h)
    (conv => whnf)
    refine condP_not (condP_yes rfl ?_)
    (conv => whnf)
    refine ⟨_, by rw [addr_add, cell_of_blk hb416]; rfl, ?_⟩
    (conv => whnf)
    intro bB w17 hwB
    (conv => whnf)
    have hON16 := hON.ext hFr.ext
    have hOE16 := hOE.ext hFr.ext
    refine app_one (S := SN) (S' := fun b => (Value.slice Br ((rowR (tabN y1) (tabS y1) x (tagsM y1 y2 ++ [[]]) q).map qtxt).length dr).ownBlock = some b) (k := kSl kStr) (x := (rowR (tabN y1) (tabS y1) x (tagsM y1 y2 ++ [[]]) q).map qtxt) (cs := [.slice Br ((rowR (tabN y1) (tabS y1) x (tagsM y1 y2 ++ [[]]) q).map qtxt).length dr]) tok rfl rfl rfl rfl rfl hwB hON16 ⟨_, rfl, kStr_flat.read1 hFr⟩ (fun b hb hS => ?_) (by simp; omega) (by simp; omega) fun vN' w18 hON18 hC18 => ?_
    · have h1 := (hFr.newB hS).1
      have h2 : SN b := by obtain ⟨css, _, _, _, hS2⟩ := hON; exact hS2 b hb
      have := hSN b h2
      omega
    have hSNown : ∀ b, vN.ownBlock = some b → SN b := fun b hb => by obtain ⟨css, _, _, _, hS2⟩ := hON; exact hS2 b hb
    have hb418 := hC18.blk hb416 (fun e => by have := hSN _ (hSNown _ e); omega)
    have hOE18 := hOE16.chg hC18 (fun b hb _ e => (hSN b (hSNown b e)).2.2 hb)
    have hs18 := hC18.size
    obtain ⟨BN, mN, dN, hvN⟩ : ∃ BN mN dN, vN' = .slice BN mN dN := by obtain ⟨BN, dN, h, _⟩ := hON18.shape; exact ⟨BN, _, dN, h⟩
    subst hvN
    (conv => whnf)
    refine ⟨rfl, trivial, ⟨_, by rw [addr_add, cell_of_blk hb418]; rfl, by rw [addr_add]; exact frozen_of_blk hb418 _⟩, fun w19 hw19 => ?_⟩
    have hb419 := hw19.blk' hb418
    have hC19 := hw19.chgB
    have hs19 := hC19.size
    have hb419 : w19.heap[b4]? = some (.cells #[.slice AT (tagsM y1 y2).length cT, .slice AW (wordsM y2).length cW, .slice BN mN dN, vE] 36 (0, 0)) := hb419
    have hSN18 : ∀ b, ((SN b ∨ (Value.slice Br ((rowR (tabN y1) (tabS y1) x (tagsM y1 y2 ++ [[]]) q).map qtxt).length dr).ownBlock = some b) ∧ b < w16.heap.size ∨ w16.heap.size ≤ b) → w14.heap.size ≤ b ∧ ¬ SE b := fun b hb => by
      rcases hb with ⟨hb | hb, _⟩ | hb
      · exact ⟨(hSN b hb).1, (hSN b hb).2.2⟩
      · have h3 := (hFr.newB hb).1
        exact ⟨by omega, fun h => by have := (hSE b h).2; omega⟩
      · exact ⟨by omega, fun h => by have := (hSE b h).2; omega⟩
    have hON19 := (hON18.chg hC19 (fun b hb _ e => by have := (hSN18 b hb).1; omega)).mono (S' := fun b => (w14.heap.size ≤ b ∧ ¬ SE b) ∧ b < w19.heap.size) fun b hb hlt => ⟨hSN18 b hb, hlt⟩
    have hOE19 := hOE18.chg hC19 (fun b hb _ e => by have := hSE b hb; omega)
    have htk : (((tagsM y1 y2 ++ [[]]).take (i + 1)).map fun t => (rowR (tabN y1) (tabS y1) t (tagsM y1 y2 ++ [[]]) q).map qtxt) = (((tagsM y1 y2 ++ [[]]).take i).map fun t => (rowR (tabN y1) (tabS y1) t (tagsM y1 y2 ++ [[]]) q).map qtxt) ++ [(rowR (tabN y1) (tabS y1) x (tagsM y1 y2 ++ [[]]) q).map qtxt] := by
      rw [List.take_add_one, hx]; simp
    rw [← htk] at hON19
    have hC1519 : Chg (fun b => b = b4 ∨ w14.heap.size ≤ b) w15 w19 := ((hFr.ext.mono (fun _ _ h => h.elim)).trans (hC18.mono fun i hi e => .inr (hSN i (hSNown i e)).1)).trans (hC19.mono fun i hi e => .inl e)
    have hC1419 : Chg (fun b => b = b4) w14 w19 := hC15.then hC1519 fun i hi e => by rcases e with e | e; exact e; omega
    clear hw19 hON18 hOE18 hON16 hOE16 hb418 hb416 hC18 hwB
    (conv => whnf)
    refine ⟨_, by rw [addr_add, cell_of_blk hb419]; rfl, ?_⟩
    (conv => whnf)
    refine condP_dec (fun he => ?_) (fun he => ?_)
    · obtain rfl : i = (tagsM y1 y2).length := by omega
      (conv => whnf)
      refine ⟨⟨rfl, rfl⟩, _, vE, (fun b => (w14.heap.size ≤ b ∧ ¬ SE b) ∧ b < w19.heap.size), SE, rfl, hC1419, hb419, ?_, ?_, fun b hb => hb.1.1, fun b hb => (hSE b hb).1⟩
      · unfold nextM
        have h9 : (tagsM y1 y2 ++ [[]]).take ((tagsM y1 y2).length + 1) = tagsM y1 y2 ++ [[]] := List.take_of_length_le (by omega)
        rw [h9] at hON19
        exact hON19
      · unfold emitM
        rw [List.take_length] at hOE19
        exact hOE19
    have hit : i < (tagsM y1 y2).length := by omega
    have hxt : (tagsM y1 y2)[i]? = some x := by rw [List.getElem?_append_left hit] at hx; exact hx
    have htk2 : (((tagsM y1 y2).take (i + 1)).map fun t => (rowR (tabN y2) (tabS y2) t (wordsM y2 ++ [[]]) q).map qtxt) = (((tagsM y1 y2).take i).map fun t => (rowR (tabN y2) (tabS y2) t (wordsM y2 ++ [[]]) q).map qtxt) ++ [(rowR (tabN y2) (tabS y2) x (wordsM y2 ++ [[]]) q).map qtxt] := by
      rw [List.take_add_one, hxt]; simp
    have hB1 := hC1419.blk hB1w (hne4w hB1w (fun _ _ _ h => by cases h))
    have hB2 := hC1419.blk hB2w (hne4w hB2w (fun _ _ _ h => by cases h))
    have h13 := hC1419.blk h13w (fun e => by rw [e, hb4] at h13w; cases h13w)
    have hW := hWw.keep hC1419 (fun b hb => by omega)
    have hE019 : Ext w w19 := hE014.then hC1419 fun i hi e => by omega
    clear hcell hC1519
    (conv => whnf)
    refine draw_meet [1, 4, 12, 13, 14, 15, 16, 94, 95, 96, 17, 18] (fun vs w' => ∃ (B2 : Option Addr) (e2 : Nat), vs = [.string (str (qtxt q)), .pointer (some ⟨b4, 0, none⟩), .pointer (some ⟨b12, 0, none⟩), .pointer (some ⟨b13, 0, none⟩), .slice (some ad) (tagsM y1 y2 ++ [[]]).length cL, .int .i64 i, .string (str x), .slice (some ad) (tagsM y1 y2 ++ [[]]).length cL, .int .i64 ((tagsM y1 y2 ++ [[]]).length : Nat), .int .i64 i, .slice B2 ((rowR (tabN y2) (tabS y2) x (wordsM y2 ++ [[]]) q).map qtxt).length e2, .int .i64 0] ∧
      Fresh kStr 9 w19 w' (.slice B2 ((rowR (tabN y2) (tabS y2) x (wordsM y2 ++ [[]]) q).map qtxt).length e2) ((rowR (tabN y2) (tabS y2) x (wordsM y2 ++ [[]]) q).map qtxt)) ?_ ?_
    · have hWL : (wordsM y2 ++ [[]]).length ≤ 600 := by simp; omega
      refine draw_held tok mixed (fun w' => w'.heap[b13]? = some (.cells #[.map (some d1), .map (some d2)] 65 (0, 0)) ∧ w'.heap[b4]? = some (.cells #[.slice AT (tagsM y1 y2).length cT, .slice AW (wordsM y2).length cW, .slice BN mN dN, vE] 36 (0, 0)))
        (ones [0, 1, 2, 3, 7] (.alt 4 (.alt 5 (.alt 6 (.alt 8 (ones [9, 10, 11, 12, 13] .done) .nil) .nil) .nil) (.alt 5 (.alt 4 (.alt 6 (.alt 8 (ones [9, 10, 11, 12, 13] .done) .nil) .nil) .nil) .nil))) (by decide +kernel) (by decide +kernel) ⟨h13, hb419⟩ ?_
      (conv => whnf)
      refine ⟨_, rfl, fun w' h => cellsAt_blk h.1, ?_⟩
      (conv => whnf)
      refine ⟨_, fun w' h => (by rw [addr_add, cell_of_blk h.2]; rfl), ?_⟩
      (conv => whnf)
      have hd0 : Ext w19 w19.drew := Chg.drew No _
      refine ⟨?_, ?_, trivial⟩
      · refine (cloneS (hW.ext hd0) (by omega)).call ?_
        intro vcl wc hFc
        have hEc : Ext w19 wc := hd0.trans hFc.ext
        (conv => whnf)
        refine ⟨⟨hEc.blk h13 (fun h => h), hEc.blk hb419 (fun h => h)⟩, ?_⟩
        (conv => whnf)
        refine ⟨?_, trivial⟩
        intro bC wd hwd
        have hEd : Ext w19 wd := hEc.trans (hwd.chg No)
        refine ⟨⟨hEd.blk h13 (fun h => h), hEd.blk hb419 (fun h => h)⟩, ?_⟩
        (conv => whnf)
        refine ⟨?_, trivial⟩
        have hFd := hFc.up (hwd.chg No)
        refine kStr_flat.app_all (S' := fun i => i = bC) tok rfl rfl rfl rfl rfl hFd (str1_new (x := []) hwd) (fun b hb e => by have := (hFc.newB hb).2; have := hwd.hb; omega) (by simp; omega) (by simp; omega) fun v2 we hFe hCe hoe => ?_
        have hEe : Ext w19 we := hd0.trans hFe.ext
        (conv => whnf)
        refine ⟨⟨hEe.blk h13 (fun h => h), hEe.blk hb419 (fun h => h)⟩, ?_⟩
        (conv => whnf)
        refine ⟨?_, trivial⟩
        obtain ⟨A2', c2', hv2, _, _⟩ := hFe.shape
        subst hv2
        refine (row d1 d2 (tabN y2) (tabS y2) x _ _ _ _ (wordsM y2 ++ [[]]) q we (hL0.ext (hE019.trans hEe)) (hEe.blk hB1 (fun h => h)) (hEe.blk hB2 (fun h => h)) hFe.read hWL hq3 hbS2 hbN2).call ?_
        rintro _ wf ⟨vr2, rfl, hFr2⟩
        obtain ⟨B2, e2, hvr2, _, _⟩ := hFr2.shape
        subst hvr2
        have hEf : Ext w19 wf := hEe.trans hFr2.ext
        (conv => whnf)
        refine ⟨⟨hEf.blk h13 (fun h => h), hEf.blk hb419 (fun h => h)⟩, ?_⟩
        (conv => whnf)
        exact ⟨rfl, B2, e2, rfl, hFr2.back hEe⟩
      · intro bC wc hwc
        have hEc : Ext w19 wc := hd0.trans (hwc.chg No)
        refine ⟨⟨hEc.blk h13 (fun h => h), hEc.blk hb419 (fun h => h)⟩, ?_⟩
        (conv => whnf)
        refine ⟨?_, trivial⟩
        refine (cloneS (hW.ext hEc) (by omega)).call ?_
        intro vcl wd hFd
        have hEd : Ext w19 wd := hEc.trans hFd.ext
        (conv => whnf)
        refine ⟨⟨hEd.blk h13 (fun h => h), hEd.blk hb419 (fun h => h)⟩, ?_⟩
        (conv => whnf)
        refine ⟨?_, trivial⟩
        refine kStr_flat.app_all (S' := fun i => i = bC) tok rfl rfl rfl rfl rfl hFd ((str1_new (x := []) hwc).ext hFd.ext) (fun b hb e => by have := (hFd.newB hb).1; have := hwc.hb; have := hwc.size; omega) (by simp; omega) (by simp; omega) fun v2 we hFe hCe hoe => ?_
        have hEe : Ext w19 we := hEc.trans hFe.ext
        (conv => whnf)
        refine ⟨⟨hEe.blk h13 (fun h => h), hEe.blk hb419 (fun h => h)⟩, ?_⟩
        (conv => whnf)
        refine ⟨?_, trivial⟩
        obtain ⟨A2', c2', hv2, _, _⟩ := hFe.shape
        subst hv2
        refine (row d1 d2 (tabN y2) (tabS y2) x _ _ _ _ (wordsM y2 ++ [[]]) q we (hL0.ext (hE019.trans hEe)) (hEe.blk hB1 (fun h => h)) (hEe.blk hB2 (fun h => h)) hFe.read hWL hq3 hbS2 hbN2).call ?_
        rintro _ wf ⟨vr2, rfl, hFr2⟩
        obtain ⟨B2, e2, hvr2, _, _⟩ := hFr2.shape
        subst hvr2
        have hEf : Ext w19 wf := hEe.trans hFr2.ext
        (conv => whnf)
        refine ⟨⟨hEf.blk h13 (fun h => h), hEf.blk hb419 (fun h => h)⟩, ?_⟩
        (conv => whnf)
        exact ⟨rfl, B2, e2, rfl, hFr2.back hEe⟩
    rintro _ w20 ⟨B2, e2, rfl, hF2⟩
    have hE1920 := hF2.ext
    have hs20 := hE1920.size
    have hb420 := hE1920.blk hb419 (fun h => h)
    (conv => whnf)
    refine condP_not (condP_yes rfl ?_)
    (conv => whnf)
    refine ⟨_, by rw [addr_add, cell_of_blk hb420]; rfl, ?_⟩
    (conv => whnf)
    intro bE w21 hwE
    have hOE20 := hOE19.ext hE1920
    have hON20 := hON19.ext hE1920
    have hSEown : ∀ b, vE.ownBlock = some b → SE b := fun b hb => by obtain ⟨css, _, _, _, hS2⟩ := hOE; exact hS2 b hb
    (conv => whnf)
    refine app_one (S := SE) (S' := fun b => (Value.slice B2 ((rowR (tabN y2) (tabS y2) x (wordsM y2 ++ [[]]) q).map qtxt).length e2).ownBlock = some b) (k := kSl kStr) (x := (rowR (tabN y2) (tabS y2) x (wordsM y2 ++ [[]]) q).map qtxt) (cs := [.slice B2 ((rowR (tabN y2) (tabS y2) x (wordsM y2 ++ [[]]) q).map qtxt).length e2]) tok rfl rfl rfl rfl rfl hwE hOE20 ⟨_, rfl, kStr_flat.read1 hF2⟩ (fun b hb hS => ?_) (by simp; omega) (by simp; omega) fun vE' w22 hOE22 hC22 => ?_
    · have h3 := (hF2.newB hS).1
      have := hSE b (hSEown b hb)
      omega
    have hb422 := hC22.blk hb420 (fun e => by have := hSE _ (hSEown _ e); omega)
    have hON22 := hON20.chg hC22 (fun b hb _ e => hb.1.2 (hSEown b e))
    have hs22 := hC22.size
    obtain ⟨BE, mE, dE, hvE⟩ : ∃ BE mE dE, vE' = .slice BE mE dE := by obtain ⟨BE, dE, h, _⟩ := hOE22.shape; exact ⟨BE, _, dE, h⟩
    subst hvE
    (conv => whnf)
    refine ⟨rfl, trivial, ⟨_, by rw [addr_add, cell_of_blk hb422]; rfl, by rw [addr_add]; exact frozen_of_blk hb422 _⟩, fun w23 hw23 => ?_⟩
    have hb423 : w23.heap[b4]? = some (.cells #[.slice AT (tagsM y1 y2).length cT, .slice AW (wordsM y2).length cW, .slice BN mN dN, .slice BE mE dE] 36 (0, 0)) := hw23.blk' hb422
    have hC23 := hw23.chgB
    have hs23 := hC23.size
    have hON23 := hON22.chg hC23 (fun b hb _ e => by have := hb.1.1; omega)
    have hOE23 := (hOE22.chg hC23 (fun b hb _ e => by
      rcases hb with ⟨hb | hb, _⟩ | hb
      · have := hSE b hb; omega
      · have := (hF2.newB hb).1; omega
      · omega)).mono (S' := fun b => (SE b ∨ w19.heap.size ≤ b) ∧ b < w23.heap.size) fun b hb hlt => ⟨by
        rcases hb with ⟨hb | hb, _⟩ | hb
        · exact .inl hb
        · exact .inr (hF2.newB hb).1
        · exact .inr (by omega), hlt⟩
    rw [← htk2] at hOE23
    (repeat ((conv => whnf); first | refine numP_i64 (by omega) ?_ | refine numP_u64 (by omega) ?_ | refine numP_u8 (by omega) ?_ | refine Exists.intro _ (And.intro ‹_› ?_) | refine Exists.intro _ (And.intro rfl ?_) | refine And.intro (by omega) (Exists.intro _ (And.intro rfl ?_)) | refine And.intro (by omega) ?_)); (conv => whnf)
    refine ⟨⟨rfl, rfl⟩, ⟨i + 1, _, _, _, _, rfl, by omega, ?_, hb423, hON23, hOE23, ?_, ?_⟩, by simp; omega⟩
    · exact ((hC1419.ext hE1920).then hC22 fun i hi e => by have := hSE i (hSEown i e); omega).trans hC23
    · intro b hb
      exact ⟨hb.1.1, by omega, fun h => by rcases h with ⟨h | h, _⟩; exact hb.1.2 h; omega⟩
    · intro b hb
      rcases hb with ⟨h | h, h2⟩
      · exact ⟨(hSE b h).1, h2⟩
      · exact ⟨by omega, h2⟩
  · rintro _ w15 ⟨vN, vE, SN, SE, rfl, hC15, hb415, hON, hOE, hSN, hSE⟩
    have hs15 := hC15.size
    obtain ⟨BN, dN, rfl, hN1, hN2⟩ := hON.shape
    obtain ⟨BE, dE, rfl, hE1, hE2⟩ := hOE.shape
    obtain ⟨wz, hrz, hbz, hCz⟩ := store_blk (P := Tryz.prog) (vs := [.slice AT (tagsM y1 y2).length cT, .slice AW (wordsM y2).length cW, .slice BN (nextM y1 y2 q).length dN, .slice BE (emitM y1 y2 q).length dE]) hb415 rfl (by intro v hv; simp at hv; rcases hv with rfl | rfl | rfl | rfl <;> rfl)
    (conv => whnf)
    refine ⟨_, rfl, cellsAt_blk hb415, ?_⟩
    (conv => whnf)
    refine ⟨rfl, wz, hrz, ?_⟩
    (conv => whnf)
    refine ⟨_, rfl, cellsAt_blk hbz, ?_⟩
    have hE0 : Ext w w15 := hE014.then hC15 fun i hi e => by omega
    have hE0z : Ext w wz := hE0.then hCz fun i hi e => by omega
    refine ⟨hE0z, .inr ⟨q, _, _, _, _, rfl, hq0, hTl, hWl, rfl, ?_, ?_, ?_, ?_⟩⟩
    · exact ((hT.keep hC15 (fun b hb => by omega)).keep hCz (fun b hb => by omega)).read.mono fun b (hb : w6.heap.size ≤ b) _ => (show w.heap.size ≤ b by omega)
    · exact ((hW.keep hC15 (fun b hb => by omega)).keep hCz (fun b hb => by omega)).read.mono fun b (hb : w6.heap.size ≤ b) _ => (show w.heap.size ≤ b by omega)
    · exact (hON.chg hCz (fun b hb _ e => by have := hSN b hb; omega)).read.mono fun b hb _ => (show w.heap.size ≤ b by have := hSN b hb; omega)
    · exact (hOE.chg hCz (fun b hb _ e => by have := hSE b hb; omega)).read.mono fun b hb _ => (show w.heap.size ≤ b by have := hSE b hb; omega)
end Go.Proofs.YtfeegacmmfgjfaaGreatDoorX

/-!  slices.Grow and slices.Concat of strings; what increases. -/
set_option linter.unusedVariables false
set_option maxRecDepth 10000
namespace Go.Proofs.YtfeegacmmfgjfaaGreatDoorX
open Go Go.RowKit Go.Proofs Go.Proofs.YtfeegacmmfgjfaaGreatDoorM
theorem growS (m : Nat) (w : World) (hm : m ≤ 1000000) : Ret Tryz.prog 134 #[.slice none 0 0, .int .i64 (m : Nat)] w fun v w' => Fresh kStr 9 w w' v [] := by
  refine fn_ret tok Tryz.func134 (by kernel_rfl) rfl rfl ?_
  (conv => whnf)
  refine condP_no (by omega) ?_
  (repeat ((conv => whnf); first | refine numP_i64 (by omega) ?_ | refine numP_u64 (by omega) ?_ | refine numP_u8 (by omega) ?_ | refine Exists.intro _ (And.intro ‹_› ?_) | refine Exists.intro _ (And.intro rfl ?_) | refine And.intro (by omega) (Exists.intro _ (And.intro rfl ?_)) | refine And.intro (by omega) ?_)); (conv => whnf)
  refine condP_dec (fun h => ?_) fun h => ?_
  · (repeat ((conv => whnf); first | refine numP_i64 (by omega) ?_ | refine numP_u64 (by omega) ?_ | refine numP_u8 (by omega) ?_ | refine Exists.intro _ (And.intro ‹_› ?_) | refine Exists.intro _ (And.intro rfl ?_) | refine And.intro (by omega) (Exists.intro _ (And.intro rfl ?_)) | refine And.intro (by omega) ?_)); (conv => whnf)
    refine sem_app_room (k := kStr) (m := m) tok rfl rfl rfl rfl rfl rfl (by omega) (by omega) (by omega) fun g c w' hc hF => ?_
    (repeat ((conv => whnf); first | refine numP_i64 (by omega) ?_ | refine numP_u64 (by omega) ?_ | refine numP_u8 (by omega) ?_ | refine Exists.intro _ (And.intro ‹_› ?_) | refine Exists.intro _ (And.intro rfl ?_) | refine And.intro (by omega) (Exists.intro _ (And.intro rfl ?_)) | refine And.intro (by omega) ?_)); (conv => whnf)
    exact hF
  · (conv => whnf)
    exact .nil _ _ (.refl _ _)
theorem concatS (S : Nat → Prop) (A : Option Addr) (n c : Nat) (ls : List (List Str)) (w : World) (h : SlR (kSl kStr) S w (.slice A n c) ls) (hl : ls.flatten.length ≤ 1000000) (hl2 : ls.length ≤ 1000000) :
    Ret Tryz.prog 99 #[.slice A n c] w fun v w' => Fresh kStr 9 w w' v ls.flatten := by
  obtain ⟨rfl, hc, hm⟩ := h.len
  have h := h.old
  have hpre : ∀ i, (ls.take i).flatten.length ≤ ls.flatten.length := fun i => by
    have := congrArg (fun l => l.flatten.length) (List.take_append_drop i ls)
    simp only [List.flatten_append, List.length_append] at this
    omega
  have hstep : ∀ i x, ls[i]? = some x → (ls.take (i + 1)).flatten = (ls.take i).flatten ++ x := fun i x hx => by
    rw [List.take_add_one, hx]; simp
  refine fn_ret tok Tryz.func99 (by kernel_rfl) rfl rfl ?_
  (conv => whnf)
  refine loop_rule tok [3, 11] [0, 9, 10] (fun vs w' => ∃ i : Nat, vs = [.int .i64 ((ls.take i).flatten.length : Nat), .int .i64 i] ∧ i ≤ ls.length ∧ w' = w) (fun vs w => match vs with | [_, .int _ i] => ls.length - i.toNat | _ => 0) ?_
  (conv => whnf)
  refine ⟨⟨0, rfl, Nat.zero_le _, rfl⟩, ?_⟩
  rintro _ w ⟨i, rfl, hi, rfl⟩
  (conv => whnf)
  refine condP_dec (fun h1 => ?_) (fun h1 => ?_)
  · have hil : i < ls.length := by omega
    obtain ⟨x, hx⟩ : ∃ x, ls[i]? = some x := ⟨_, List.getElem?_eq_getElem hil⟩
    obtain ⟨ad, _, rfl, _, ⟨sv, rfl, hsv⟩, hca⟩ := h.get hx
    have hcell : w.cell? (ad.add ((i : Int).toNat * 1)) = some sv := by
      have := cellsAt_zero hca (u := sv) rfl
      rw [Int.toNat_natCast]; exact this
    obtain ⟨As, cs_, rfl, hcs, hcm⟩ := hsv.shape
    have h2 := hstep i x hx
    have h3 := congrArg List.length h2
    rw [List.length_append] at h3
    have h4 := hpre (i + 1)
    (repeat ((conv => whnf); first | refine numP_i64 (by omega) ?_ | refine numP_u64 (by omega) ?_ | refine numP_u8 (by omega) ?_ | refine Exists.intro _ (And.intro ‹_› ?_) | refine Exists.intro _ (And.intro rfl ?_) | refine And.intro (by omega) (Exists.intro _ (And.intro rfl ?_)) | refine And.intro (by omega) ?_)); (conv => whnf)
    refine condP_no (by omega) ?_
    (repeat ((conv => whnf); first | refine numP_i64 (by omega) ?_ | refine numP_u64 (by omega) ?_ | refine numP_u8 (by omega) ?_ | refine Exists.intro _ (And.intro ‹_› ?_) | refine Exists.intro _ (And.intro rfl ?_) | refine And.intro (by omega) (Exists.intro _ (And.intro rfl ?_)) | refine And.intro (by omega) ?_)); (conv => whnf)
    refine ⟨⟨rfl, rfl⟩, ⟨i + 1, ?_, by omega, rfl⟩, by simp; omega⟩
    rw [h3]; rfl
  · obtain rfl : i = ls.length := by omega
    rw [List.take_length] 
    (conv => whnf)
    refine (growS ls.flatten.length w hl).call ?_
    intro v w1 hF1
    (conv => whnf)
    have h1' := h.ext hF1.ext
    refine loop_rule tok [6, 27] [0, 25, 26] (fun vs w' => ∃ (i : Nat) (v : Value), vs = [v, .int .i64 i] ∧ i ≤ ls.length ∧ Fresh kStr 9 w w' v (ls.take i).flatten) (fun vs w => match vs with | [_, .int _ i] => ls.length - i.toNat | _ => 0) ?_
    (conv => whnf)
    refine ⟨⟨0, v, rfl, Nat.zero_le _, hF1⟩, ?_⟩
    clear hF1
    rintro _ w2 ⟨i, v, rfl, hi, hF⟩
    have h2 := h.ext hF.ext
    (conv => whnf)
    refine condP_dec (fun h3 => ?_) (fun h3 => ?_)
    · have hil : i < ls.length := by omega
      obtain ⟨x, hx⟩ : ∃ x, ls[i]? = some x := ⟨_, List.getElem?_eq_getElem hil⟩
      obtain ⟨ad, _, rfl, _, ⟨sv, rfl, hsv⟩, hca⟩ := h2.get hx
      have hcell : w2.cell? (ad.add ((i : Int).toNat * 1)) = some sv := by
        have := cellsAt_zero hca (u := sv) rfl
        rw [Int.toNat_natCast]; exact this
      have h5 := hstep i x hx
      have h6 := congrArg List.length h5
      rw [List.length_append] at h6
      have h4 := hpre (i + 1)
      (repeat ((conv => whnf); first | refine numP_i64 (by omega) ?_ | refine numP_u64 (by omega) ?_ | refine numP_u8 (by omega) ?_ | refine Exists.intro _ (And.intro ‹_› ?_) | refine Exists.intro _ (And.intro rfl ?_) | refine And.intro (by omega) (Exists.intro _ (And.intro rfl ?_)) | refine And.intro (by omega) ?_)); (conv => whnf)
      refine kStr_flat.app_all tok rfl rfl rfl rfl rfl hF hsv (fun b hb hS => ?_) (by omega) (by omega) fun v' w3 hF3 hC3 ho3 => ?_
      · have := (hF.newB hb).1
        have : b < w.heap.size := hS
        omega
      (repeat ((conv => whnf); first | refine numP_i64 (by omega) ?_ | refine numP_u64 (by omega) ?_ | refine numP_u8 (by omega) ?_ | refine Exists.intro _ (And.intro ‹_› ?_) | refine Exists.intro _ (And.intro rfl ?_) | refine And.intro (by omega) (Exists.intro _ (And.intro rfl ?_)) | refine And.intro (by omega) ?_)); (conv => whnf)
      refine ⟨⟨rfl, rfl⟩, ⟨i + 1, v', rfl, by omega, ?_⟩, by simp; omega⟩
      rw [h5]; exact hF3
    · obtain rfl : i = ls.length := by omega
      rw [List.take_length] at hF
      (conv => whnf)
      exact hF
def incS : List Str → Bool
  | a :: b :: r => lts a b && incS (b :: r)
  | _ => true
theorem incS_drop (xs : List Str) (i : Nat) (h : ∀ j, 1 ≤ j → j < i → lts (xs.getD (j - 1) []) (xs.getD j []) = true) (hi : i ≤ xs.length) (h1 : 1 ≤ i) : incS xs = incS (xs.drop (i - 1)) := by
  induction i with
  | zero => omega
  | succ i ih =>
    rcases Nat.eq_zero_or_pos i with rfl | hp
    · rfl
    · rw [ih (fun j h2 h3 => h j h2 (by omega)) (by omega) hp]
      have e1 : xs.drop (i - 1) = xs.getD (i - 1) [] :: xs.getD i [] :: xs.drop (i + 1) := by
        rw [List.drop_eq_getElem_cons (by omega), show i - 1 + 1 = i by omega, List.drop_eq_getElem_cons (by omega)]
        simp [List.getD_eq_getElem?_getD, List.getElem?_eq_getElem (show i - 1 < xs.length by omega), List.getElem?_eq_getElem (show i < xs.length by omega)]
      have e2 : xs.drop (i + 1 - 1) = xs.getD i [] :: xs.drop (i + 1) := by
        rw [show i + 1 - 1 = i by omega, List.drop_eq_getElem_cons (by omega)]
        simp [List.getD_eq_getElem?_getD, List.getElem?_eq_getElem (show i < xs.length by omega)]
      rw [e1, e2, incS, h i hp (by omega), Bool.true_and]
theorem SlR.strg {S : Nat → Prop} {w : World} {ad : Addr} {m c : Nat} {xs : List Str} (h : SlR kStr S w (.slice (some ad) m c) xs) {j : Nat} {x : Str} (hj : xs[j]? = some x) : w.cell? (ad.add (j * 1)) = some (.string (str x)) := by
  obtain ⟨ad', cs, he, _, hr, hca⟩ := h.get hj
  cases he
  obtain rfl : cs = [.string (str x)] := hr
  exact cellsAt_zero hca rfl
theorem incS_ (S : Nat → Prop) (A : Option Addr) (n c : Nat) (xs : List Str) (w : World) (h : SlR kStr S w (.slice A n c) xs) :
    Ret Tryz.prog 98 #[.slice A n c, .func (.func 71) #[] #[]] w fun v w' => v = .bool (incS xs) ∧ Ext w w' := by
  obtain ⟨rfl, hc, hm⟩ := h.len
  refine fn_ret tok Tryz.func98 (by kernel_rfl) rfl rfl ?_
  (conv => whnf)
  refine loop_rule tok [5] [0, 1] (fun vs w' => ∃ i : Nat, vs = [.int .i64 i] ∧ 1 ≤ i ∧ (∀ j, 1 ≤ j → j < i → lts (xs.getD (j - 1) []) (xs.getD j []) = true) ∧ (1 < i → i ≤ xs.length) ∧ Ext w w') (fun vs w => match vs with | [.int _ i] => xs.length - i.toNat | _ => 0) ?_
  (conv => whnf)
  refine ⟨⟨1, rfl, by omega, fun j h1 h2 => by omega, fun h => by omega, .refl _ _⟩, ?_⟩
  rintro _ w1 ⟨i, rfl, hi, hinc, hil, hE⟩
  (conv => whnf)
  refine condP_dec (fun h1 => ?_) (fun h1 => ?_)
  · obtain ⟨ad, rfl⟩ := h.some_ (by omega)
    obtain ⟨x, hx1⟩ : ∃ x, xs[i - 1]? = some x := ⟨_, List.getElem?_eq_getElem (by omega)⟩
    obtain ⟨y, hy1⟩ : ∃ y, xs[i]? = some y := ⟨_, List.getElem?_eq_getElem (by omega)⟩
    have gx : xs.getD (i - 1) [] = x := by rw [List.getD_eq_getElem?_getD, hx1]; rfl
    have gy : xs.getD i [] = y := by rw [List.getD_eq_getElem?_getD, hy1]; rfl
    (conv => whnf)
    refine draw_held tok mixed (fun w' => Ext w w') (ones [0, 1, 2, 3, 4, 5, 6, 7, 8, 9] (.alt 10 (ones [11] .done) .nil)) (by decide +kernel) (by decide +kernel) (hE.trans (Chg.drew _ _)) ?_
    (repeat ((conv => whnf); first | refine numP_i64 (by omega) ?_ | refine numP_u64 (by omega) ?_ | refine numP_u8 (by omega) ?_ | refine Exists.intro _ (And.intro ‹_› ?_) | refine Exists.intro _ (And.intro rfl ?_) | refine And.intro (by omega) (Exists.intro _ (And.intro rfl ?_)) | refine And.intro (by omega) ?_)); (conv => whnf)
    refine ⟨_, fun w' hw' => by rw [show ((i : Int) - 1).toNat = i - 1 by omega]; exact (h.ext hw').strg hx1, ?_⟩
    (repeat ((conv => whnf); first | refine numP_i64 (by omega) ?_ | refine numP_u64 (by omega) ?_ | refine numP_u8 (by omega) ?_ | refine Exists.intro _ (And.intro ‹_› ?_) | refine Exists.intro _ (And.intro rfl ?_) | refine And.intro (by omega) (Exists.intro _ (And.intro rfl ?_)) | refine And.intro (by omega) ?_)); (conv => whnf)
    refine ⟨_, fun w' hw' => by rw [Int.toNat_natCast]; exact (h.ext hw').strg hy1, ?_⟩
    (conv => whnf)
    refine ⟨?_, trivial⟩
    refine (compareS x y _).call ?_
    rintro _ w2 ⟨rfl, rfl⟩
    have hE2 : Ext w w1.drew := (hE.trans (Chg.drew _ _))
    (conv => whnf)
    refine ⟨hE2, ?_⟩
    have hcl := @cmps_lt x y
    (conv => whnf)
    refine condP_dec (fun h2 => ?_) (fun h2 => ?_)
    · (conv => whnf)
      refine ⟨?_, hE2⟩
      have hf : lts x y = false := by
        cases hl : lts x y with
        | false => rfl
        | true => have := hcl.2 hl; omega
      rw [incS_drop xs i hinc (by omega) hi, List.drop_eq_getElem_cons (by omega), show i - 1 + 1 = i by omega, List.drop_eq_getElem_cons (by omega)]
      have e1 : xs[i - 1]'(by omega) = x := (List.getElem?_eq_some_iff.1 hx1).2
      have e2 : xs[i]'(by omega) = y := (List.getElem?_eq_some_iff.1 hy1).2
      rw [e1, e2, incS, hf]; rfl
    · (repeat ((conv => whnf); first | refine numP_i64 (by omega) ?_ | refine numP_u64 (by omega) ?_ | refine numP_u8 (by omega) ?_ | refine Exists.intro _ (And.intro ‹_› ?_) | refine Exists.intro _ (And.intro rfl ?_) | refine And.intro (by omega) (Exists.intro _ (And.intro rfl ?_)) | refine And.intro (by omega) ?_)); (conv => whnf)
      refine ⟨⟨rfl, rfl⟩, ⟨i + 1, rfl, by omega, fun j h3 h4 => ?_, fun _ => by omega, hE2⟩, by simp; omega⟩
      rcases Nat.lt_or_ge j i with h5 | h5
      · exact hinc j h3 h5
      · obtain rfl : j = i := by omega
        rw [gx, gy]; exact hcl.1 (by omega)
  · (conv => whnf)
    refine ⟨?_, hE⟩
    rcases Nat.lt_or_ge xs.length 2 with h2 | h2
    · match xs, h2 with
      | [], _ => rfl
      | [a], _ => rfl
      | _ :: _ :: _, h2 => simp at h2; omega
    · have hi2 : i = xs.length := by
        by_cases h3 : 1 < i
        · have := hil h3; omega
        · omega
      rw [incS_drop xs i hinc (by omega) hi, hi2, List.drop_eq_getElem_cons (by omega), show xs.length - 1 + 1 = xs.length by omega, List.drop_length]
      rfl
end Go.Proofs.YtfeegacmmfgjfaaGreatDoorX

/-!  Package counts: what models are valid. -/
set_option linter.unusedVariables false
set_option maxRecDepth 10000
namespace Go.Proofs.YtfeegacmmfgjfaaGreatDoorX
open Go Go.RowKit Go.Proofs Go.Proofs.YtfeegacmmfgjfaaGreatDoorM
def okP (q : Rat) : Bool := decide (0 ≤ q.num) && decide (q.num ≤ q.den)
def rowsOk (rr : List (List Rat)) (n width : Nat) : Bool := decide (rr.length = n) && rr.all fun r => decide (r.length = width) && r.all okP
theorem all_not {α : Type} {p : α → Bool} {l : List α} {x : α} (hx : x ∈ l) (h : p x = false) : l.all p = false := by
  cases ha : l.all p with
  | false => rfl
  | true => rw [List.all_eq_true] at ha; rw [ha x hx] at h; cases h
theorem all_take {α : Type} {p : α → Bool} {l : List α} {i : Nat} {x : α} (h : (l.take i).all p = true) (hx : l[i]? = some x) (hp : p x = true) : (l.take (i + 1)).all p = true := by
  rw [List.take_add_one, hx, List.all_append, h]; simp [hp]
theorem rows_ (S : Nat → Prop) (A : Option Addr) (m c n width : Nat) (rr : List (List Rat)) (w : World) (hL : Laid w) (h : SlR (kSl kStr) S w (.slice A m c) (rr.map fun r => r.map qtxt)) (hd : ∀ r ∈ rr, ∀ q ∈ r, Dg 190 q) :
    Ret Tryz.prog 100 #[.slice A m c, .int .i64 n, .int .i64 width] w fun v w' => v = .bool (rowsOk rr n width) ∧ Ext w w' := by
  obtain ⟨rfl, hc, hm⟩ := h.len
  rw [List.length_map] at hc
  refine fn_ret tok Tryz.func100 (by kernel_rfl) rfl rfl ?_
  rw [List.length_map]
  (conv => whnf)
  refine condP_not (condP_dec (fun hn => ?_) (fun hn => ?_))
  rotate_left
  · (conv => whnf)
    refine ⟨?_, .refl _ _⟩
    unfold rowsOk
    rw [decide_eq_false (by omega)]; rfl
  have hn : rr.length = n := by omega
  (conv => whnf)
  refine loop_rule tok [17] [2, 15, 16] (fun vs w' => ∃ i : Nat, vs = [.int .i64 i] ∧ i ≤ rr.length ∧ ((rr.take i).all fun r => decide (r.length = width) && r.all okP) = true ∧ Ext w w') (fun vs w => match vs with | [.int _ i] => rr.length - i.toNat | _ => 0) ?_
  (conv => whnf)
  refine ⟨⟨0, rfl, Nat.zero_le _, rfl, .refl _ _⟩, ?_⟩
  rintro _ w1 ⟨i, rfl, hi, hok, hE1⟩
  (conv => whnf)
  refine condP_dec (fun h1 => ?_) (fun h1 => ?_)
  rotate_left
  · obtain rfl : i = rr.length := by omega
    rw [List.take_length] at hok
    (conv => whnf)
    refine ⟨?_, hE1⟩
    unfold rowsOk
    rw [decide_eq_true hn, hok]; rfl
  obtain ⟨r, hr⟩ : ∃ r, rr[i]? = some r := ⟨_, List.getElem?_eq_getElem (by omega)⟩
  have hrm := List.mem_of_getElem? hr
  obtain ⟨ad, rfl⟩ := h.some_ (by rw [List.length_map]; omega)
  obtain ⟨ad', _, he, _, ⟨sv, rfl, hsv⟩, hca⟩ := (h.ext hE1).get (j := i) (x := r.map qtxt) (by rw [List.getElem?_map, hr]; rfl)
  cases he
  have hcell : w1.cell? (ad.add ((i : Int).toNat * 1)) = some sv := by
    have := cellsAt_zero hca (u := sv) rfl
    rw [Int.toNat_natCast]; exact this
  obtain ⟨A2, c2, rfl, hc2, hm2⟩ := hsv.shape
  rw [List.length_map] at hcell hc2 hsv
  (repeat ((conv => whnf); first | refine numP_i64 (by omega) ?_ | refine numP_u64 (by omega) ?_ | refine numP_u8 (by omega) ?_ | refine Exists.intro _ (And.intro ‹_› ?_) | refine Exists.intro _ (And.intro rfl ?_) | refine And.intro (by omega) (Exists.intro _ (And.intro rfl ?_)) | refine And.intro (by omega) ?_)); (conv => whnf)
  refine condP_not (condP_dec (fun hw => ?_) (fun hw => ?_))
  rotate_left
  · have hE2 := hE1
    have hbad : (decide (r.length = width) && r.all okP) = false := by rw [decide_eq_false (by omega)]; rfl
    (conv => whnf)
    refine ⟨?_, hE2⟩
    unfold rowsOk
    rw [all_not hrm (by rw [hbad]), Bool.and_false]
  have hw : r.length = width := by omega
  (conv => whnf)
  refine loop_rule tok [27] [2, 15, 16, 17, 25, 26] (fun vs w' => ∃ j : Nat, vs = [.int .i64 j] ∧ j ≤ r.length ∧ (r.take j).all okP = true ∧ Ext w1 w') (fun vs w => match vs with | [.int _ j] => r.length - j.toNat | _ => 0) ?_
  (conv => whnf)
  refine ⟨⟨0, rfl, Nat.zero_le _, rfl, .refl _ _⟩, ?_⟩
  rintro _ w2 ⟨j, rfl, hj, hjok, hE12⟩
  have hE2 := hE1.trans hE12
  (conv => whnf)
  refine condP_dec (fun h2 => ?_) (fun h2 => ?_)
  rotate_left
  · obtain rfl : j = r.length := by omega
    rw [List.take_length] at hjok
    (repeat ((conv => whnf); first | refine numP_i64 (by omega) ?_ | refine numP_u64 (by omega) ?_ | refine numP_u8 (by omega) ?_ | refine Exists.intro _ (And.intro ‹_› ?_) | refine Exists.intro _ (And.intro rfl ?_) | refine And.intro (by omega) (Exists.intro _ (And.intro rfl ?_)) | refine And.intro (by omega) ?_)); (conv => whnf)
    refine ⟨⟨rfl, rfl⟩, ⟨i + 1, rfl, by omega, all_take hok hr (by rw [decide_eq_true hw, hjok]; rfl), hE2⟩, by simp; omega⟩
  obtain ⟨q, hq⟩ : ∃ q, r[j]? = some q := ⟨_, List.getElem?_eq_getElem (by omega)⟩
  have hqm := List.mem_of_getElem? hq
  have hqd := hd r hrm q hqm
  have hqj : (r.map qtxt)[j]? = some (qtxt q) := by rw [List.getElem?_map, hq]; rfl
  obtain ⟨ad2, rfl⟩ := hsv.some_ (by rw [List.length_map]; omega)
  have hcell2 : w2.cell? (ad2.add ((j : Int).toNat * 1)) = some (.string (str (qtxt q))) := by
    rw [Int.toNat_natCast]; exact (hsv.ext hE12).strg hqj
  (repeat ((conv => whnf); first | refine numP_i64 (by omega) ?_ | refine numP_u64 (by omega) ?_ | refine numP_u8 (by omega) ?_ | refine Exists.intro _ (And.intro ‹_› ?_) | refine Exists.intro _ (And.intro rfl ?_) | refine And.intro (by omega) (Exists.intro _ (And.intro rfl ?_)) | refine And.intro (by omega) ?_)); (conv => whnf)
  have hql := qtxt_len q (hqd.short (by omega))
  refine (rat_Valid (qtxt q) w2 (hL.ext hE2) (by omega)).call ?_
  rintro v w3 ⟨hE3, hv⟩
  obtain ⟨p', _, _, rfl⟩ | ⟨hv, _⟩ := hv
  case inr => exact absurd rfl (hv q (hqd.short (by omega)))
  have hE23 := hE2.trans hE3
  (conv => whnf)
  rw [show ({ data := #[48] } : ByteArray) = str (qtxt 0) by rw [qtxt_zero_]]
  refine (rat_Cmp q 0 w3 (hL.ext hE23) ⟨hqd.1, hqd.2⟩ (by decide +kernel)).call ?_
  rintro _ w4 ⟨rfl, hE4⟩
  have hE24 := hE23.trans hE4
  have hqz : qz q 0 = q.num := by unfold qz; simp
  have hqz1 : qz q 1 = q.num - q.den := by unfold qz; simp
  rw [hqz]
  by_cases hneg : q.num < 0
  · rw [if_neg (by omega), if_pos hneg]
    have hbad : (decide (r.length = width) && r.all okP) = false := by
      rw [all_not hqm (show okP q = false by unfold okP; rw [decide_eq_false (by omega)]; rfl), Bool.and_false]
    have hE2 := hE24
    (conv => whnf)
    refine condP_yes (by omega) ?_
    (conv => whnf)
    refine ⟨?_, hE2⟩
    unfold rowsOk
    rw [all_not hrm (by rw [hbad]), Bool.and_false]
  have hc0 : ¬ (if q.num = 0 then (0 : Int) else if q.num < 0 then -1 else 1) < 0 := by
    split <;> omega
  (conv => whnf)
  refine condP_no hc0 ?_
  rw [show ({ data := #[49] } : ByteArray) = str (qtxt 1) by rw [qtxt_one_]]
  refine (rat_Cmp q 1 w4 (hL.ext hE24) ⟨hqd.1, hqd.2⟩ (by decide +kernel)).call ?_
  rintro _ w5 ⟨rfl, hE5⟩
  have hE25 := hE24.trans hE5
  rw [hqz1]
  by_cases hbig : q.num ≤ q.den
  · have hc1 : ¬ 0 < (if q.num - (q.den : Int) = 0 then (0 : Int) else if q.num - (q.den : Int) < 0 then -1 else 1) := by
      split
      · omega
      · rw [if_pos (by omega)]; omega
    (conv => whnf)
    refine condP_no hc1 ?_
    (repeat ((conv => whnf); first | refine numP_i64 (by omega) ?_ | refine numP_u64 (by omega) ?_ | refine numP_u8 (by omega) ?_ | refine Exists.intro _ (And.intro ‹_› ?_) | refine Exists.intro _ (And.intro rfl ?_) | refine And.intro (by omega) (Exists.intro _ (And.intro rfl ?_)) | refine And.intro (by omega) ?_)); (conv => whnf)
    exact ⟨⟨rfl, rfl⟩, ⟨j + 1, rfl, by omega, all_take hjok hq (by unfold okP; rw [decide_eq_true (by omega), decide_eq_true hbig]; rfl), ((hE12.trans hE3).trans hE4).trans hE5⟩, by simp; omega⟩
  · rw [if_neg (by omega), if_neg (by omega)]
    have hbad : (decide (r.length = width) && r.all okP) = false := by
      rw [all_not hqm (show okP q = false by unfold okP; rw [decide_eq_false hbig, Bool.and_false]), Bool.and_false]
    have hE2 := hE25
    (conv => whnf)
    refine condP_yes (by omega) ?_
    (conv => whnf)
    refine ⟨?_, hE2⟩
    unfold rowsOk
    rw [all_not hrm (by rw [hbad]), Bool.and_false]
end Go.Proofs.YtfeegacmmfgjfaaGreatDoorX

/-!  Package counts: ValidModel. -/
set_option linter.unusedVariables false
set_option maxRecDepth 10000
namespace Go.Proofs.YtfeegacmmfgjfaaGreatDoorX
open Go Go.RowKit Go.Proofs Go.Proofs.YtfeegacmmfgjfaaGreatDoorM
def vmB (T W : List Str) (rN rE : List (List Rat)) : Bool :=
  decide (T.length ≤ 40) && (decide (W.length ≤ 500) && (incS T && (incS W && ((T ++ W).all isNm && (rowsOk rN (T.length + 1) (T.length + 1) && rowsOk rE T.length (W.length + 1))))))
/-- The four slices of a model. -/
structure ModR (S : Nat → Prop) (w : World) (v : Value) (T W : List Str) (rN rE : List (List Rat)) : Prop where
  out : ∃ vT vW vN vE, v = .agg #[vT, vW, vN, vE] ∧ SlR kStr S w vT T ∧ SlR kStr S w vW W ∧ SlR (kSl kStr) S w vN (rN.map fun r => r.map qtxt) ∧ SlR (kSl kStr) S w vE (rE.map fun r => r.map qtxt)
structure ModD (T W : List Str) (rN rE : List (List Rat)) (n : Nat) : Prop where
  t : ∀ s ∈ T, s.length ≤ 9223372036854775807
  w : ∀ s ∈ W, s.length ≤ 9223372036854775807
  rn : ∀ r ∈ rN, ∀ q ∈ r, Dg n q
  re : ∀ r ∈ rE, ∀ q ∈ r, Dg n q
theorem validModel (S : Nat → Prop) (w : World) (v : Value) (T W : List Str) (rN rE : List (List Rat)) (hL : Laid w) (h : ModR S w v T W rN rE) (hd : ModD T W rN rE 190) (hTl : T.length ≤ 1000000) (hWl : W.length ≤ 1000000) :
    Ret Tryz.prog 61 #[v] w fun r w' => r = .bool (vmB T W rN rE) ∧ Ext w w' := by
  obtain ⟨vT, vW, vN, vE, rfl, hT, hW, hN, hE⟩ := h.out
  obtain ⟨A1, c1, rfl, _, _⟩ := hT.shape
  obtain ⟨A2, c2, rfl, _, _⟩ := hW.shape
  obtain ⟨A3, c3, rfl, _, _⟩ := hN.shape
  obtain ⟨A4, c4, rfl, _, _⟩ := hE.shape
  refine fn_ret tok Tryz.func61 (by kernel_rfl) rfl rfl ?_
  (conv => whnf)
  intro b1 w1 hw1
  have hE1 : Ext w w1 := hw1.chg _
  have hb1 := hw1.blk
  (conv => whnf)
  refine draw_held tok mixed (fun w' => w'.heap[b1]? = some (.cells #[.slice A1 T.length c1, .slice A2 W.length c2, .slice A3 (rN.map fun r => r.map qtxt).length c3, .slice A4 (rE.map fun r => r.map qtxt).length c4] 36 (0, 0))) (ones [0, 1, 2, 3, 4, 5, 6, 7] .done) (by decide +kernel) (by decide +kernel) hb1 ?_
  (conv => whnf)
  refine ⟨_, fun w' h => (by rw [addr_add, cell_of_blk h]; rfl), ?_⟩
  (conv => whnf)
  refine ⟨_, fun w' h => (by rw [addr_add, cell_of_blk h]; rfl), ?_⟩
  have hE1 := hE1.trans (Chg.drew No w1)
  have hb1 : w1.drew.heap[b1]? = some (.cells #[.slice A1 T.length c1, .slice A2 W.length c2, .slice A3 (rN.map fun r => r.map qtxt).length c3, .slice A4 (rE.map fun r => r.map qtxt).length c4] 36 (0, 0)) := hb1
  generalize w1.drew = w1 at *
  (conv => whnf)
  by_cases hT4 : T.length ≤ 40
  rotate_left
  · have hEc := hE1
    refine condP_yes (by omega) ?_
    (conv => whnf)
    refine ⟨?_, hEc⟩
    unfold vmB
    rw [decide_eq_false hT4]; rfl
  refine condP_no (by omega) ?_
  (conv => whnf)
  by_cases hW5 : W.length ≤ 500
  rotate_left
  · have hEc := hE1
    refine condP_yes (by omega) ?_
    (conv => whnf)
    refine ⟨?_, hEc⟩
    unfold vmB
    rw [decide_eq_false hW5, Bool.false_and, Bool.and_false]
  refine condP_no (by omega) ?_
  (conv => whnf)
  refine ⟨_, by rw [addr_add, cell_of_blk hb1]; rfl, ?_⟩
  (conv => whnf)
  refine (incS_ S A1 _ c1 T w1 (hT.ext hE1)).call ?_
  rintro _ w2 ⟨rfl, hE2⟩
  have hE02 := hE1.trans hE2
  have hb2 := hE2.blk hb1 (fun h => h)
  (conv => whnf)
  refine condP_not (condP_cases (fun hiT => ?_) (fun hiT => ?_))
  rotate_left
  · have hEc := hE02
    (conv => whnf)
    refine ⟨?_, hEc⟩
    unfold vmB
    rw [hiT, Bool.false_and, Bool.and_false, Bool.and_false]
  (conv => whnf)
  refine ⟨_, by rw [addr_add, cell_of_blk hb2]; rfl, ?_⟩
  (conv => whnf)
  refine (incS_ S A2 _ c2 W w2 (hW.ext hE02)).call ?_
  rintro _ w3 ⟨rfl, hE3⟩
  have hE03 := hE02.trans hE3
  have hb3 := hE3.blk hb2 (fun h => h)
  (conv => whnf)
  refine condP_not (condP_cases (fun hiW => ?_) (fun hiW => ?_))
  rotate_left
  · have hEc := hE03
    (conv => whnf)
    refine ⟨?_, hEc⟩
    unfold vmB
    rw [hiW, Bool.false_and, Bool.and_false, Bool.and_false, Bool.and_false]
  (conv => whnf)
  refine ⟨_, by rw [addr_add, cell_of_blk hb3]; rfl, ?_⟩
  (conv => whnf)
  refine ⟨_, by rw [addr_add, cell_of_blk hb3]; rfl, ?_⟩
  (conv => whnf)
  intro b12 w4 hw4
  have hE34 : Ext w3 w4 := hw4.chg _
  have hE04 := hE03.trans hE34
  have hsl : SlR (kSl kStr) (fun i => S i ∨ i = b12) w4 (.slice (some ⟨b12, 0, none⟩) 2 2) [T, W] := by
    refine ⟨some ⟨b12, 0, none⟩, 2, rfl, by simp, by omega, fun j x hj => ⟨_, [if j = 0 then .slice A1 T.length c1 else .slice A2 W.length c2], rfl, .inr rfl, ?_, ?_⟩⟩
    · refine ⟨_, rfl, ?_⟩
      rcases j with _ | _ | j
      · simp at hj; subst hj; exact (hT.ext hE04).mono fun i hi _ => .inl hi
      · simp at hj; subst hj; exact (hW.ext hE04).mono fun i hi _ => .inl hi
      · simp at hj
    · refine cellsAt_one ?_
      rw [addr_add, cell_of_blk hw4.blk]
      rcases j with _ | _ | j
      · rfl
      · rfl
      · simp at hj
  have hflat : [T, W].flatten = T ++ W := by simp
  (conv => whnf)
  refine (concatS _ _ _ _ [T, W] w4 hsl (by rw [hflat]; simp; omega) (by simp)).call ?_
  intro vc w5 hF
  rw [hflat] at hF
  have hb5 := (hE34.trans hF.ext).blk hb3 (fun h => h)
  have hE05 := hE04.trans hF.ext
  obtain ⟨A, c, rfl, hc1, hc2⟩ := hF.shape
  have hR : SlR kStr (fun i => w4.heap.size ≤ i) w5 _ (T ++ W) := hF.read
  have hnl : ∀ s ∈ T ++ W, s.length ≤ 9223372036854775807 := fun s hs => (List.mem_append.1 hs).elim (hd.t s) (hd.w s)
  have hll : (T ++ W).length = T.length + W.length := List.length_append
  clear hw4 hsl hF
  (conv => whnf)
  refine loop_rule tok [38] [1, 3, 4, 36, 37] (fun vs w' => ∃ i : Nat, vs = [.int .i64 i] ∧ i ≤ (T ++ W).length ∧ ((T ++ W).take i).all isNm = true ∧ w' = w5) (fun vs w => match vs with | [.int _ i] => (T ++ W).length - i.toNat | _ => 0) ?_
  (conv => whnf)
  refine ⟨⟨0, rfl, Nat.zero_le _, rfl, rfl⟩, ?_⟩
  rintro _ w5 ⟨i, rfl, hi, hok, rfl⟩
  (conv => whnf)
  refine condP_dec (fun h1 => ?_) (fun h1 => ?_)
  · obtain ⟨ad, rfl⟩ := hR.some_ (by omega)
    obtain ⟨x, hx⟩ : ∃ x, (T ++ W)[i]? = some x := ⟨_, List.getElem?_eq_getElem (by omega)⟩
    have hxm := List.mem_of_getElem? hx
    have hcell : w5.cell? (ad.add ((i : Int).toNat * 1)) = some (.string (str x)) := by rw [Int.toNat_natCast]; exact hR.strg hx
    (repeat ((conv => whnf); first | refine numP_i64 (by omega) ?_ | refine numP_u64 (by omega) ?_ | refine numP_u8 (by omega) ?_ | refine Exists.intro _ (And.intro ‹_› ?_) | refine Exists.intro _ (And.intro rfl ?_) | refine And.intro (by omega) (Exists.intro _ (And.intro rfl ?_)) | refine And.intro (by omega) ?_)); (conv => whnf)
    refine (isName x w5 (hnl x hxm)).call ?_
    rintro _ w5 ⟨rfl, rfl⟩
    (conv => whnf)
    refine condP_not (condP_cases (fun hnm => ?_) (fun hnm => ?_))
    · (repeat ((conv => whnf); first | refine numP_i64 (by omega) ?_ | refine numP_u64 (by omega) ?_ | refine numP_u8 (by omega) ?_ | refine Exists.intro _ (And.intro ‹_› ?_) | refine Exists.intro _ (And.intro rfl ?_) | refine And.intro (by omega) (Exists.intro _ (And.intro rfl ?_)) | refine And.intro (by omega) ?_)); (conv => whnf)
      exact ⟨⟨rfl, rfl⟩, ⟨i + 1, rfl, by omega, all_take hok hx hnm, rfl⟩, by simp; omega⟩
    · have hEc := hE05
      (conv => whnf)
      refine ⟨?_, hEc⟩
      unfold vmB
      rw [all_not hxm hnm, Bool.false_and, Bool.and_false, Bool.and_false, Bool.and_false, Bool.and_false]
  · obtain rfl : i = (T ++ W).length := by omega
    rw [List.take_length] at hok
    have g3 := rows_ S A3 (rN.map fun r => r.map qtxt).length c3 (T.length + 1) (T.length + 1) rN w5 (hL.ext hE05) (hN.ext hE05) hd.rn
    (conv => whnf)
    refine ⟨_, by rw [addr_add, cell_of_blk hb5]; rfl, ?_⟩
    (repeat ((conv => whnf); first | refine numP_i64 (by omega) ?_ | refine numP_u64 (by omega) ?_ | refine numP_u8 (by omega) ?_ | refine Exists.intro _ (And.intro ‹_› ?_) | refine Exists.intro _ (And.intro rfl ?_) | refine And.intro (by omega) (Exists.intro _ (And.intro rfl ?_)) | refine And.intro (by omega) ?_)); (conv => whnf)
    refine g3.call ?_
    rintro _ w6 ⟨rfl, hE6⟩
    have hE06 := hE05.trans hE6
    have hb6 := hE6.blk hb5 (fun h => h)
    have g4 := rows_ S A4 (rE.map fun r => r.map qtxt).length c4 T.length (W.length + 1) rE w6 (hL.ext hE06) (hE.ext hE06) hd.re
    (conv => whnf)
    refine condP_cases (fun hr1 => ?_) (fun hr1 => ?_)
    · refine ⟨_, by rw [addr_add, cell_of_blk hb6]; rfl, ?_⟩
      (repeat ((conv => whnf); first | refine numP_i64 (by omega) ?_ | refine numP_u64 (by omega) ?_ | refine numP_u8 (by omega) ?_ | refine Exists.intro _ (And.intro ‹_› ?_) | refine Exists.intro _ (And.intro rfl ?_) | refine And.intro (by omega) (Exists.intro _ (And.intro rfl ?_)) | refine And.intro (by omega) ?_)); (conv => whnf)
      refine g4.call ?_
      rintro _ w7 ⟨rfl, hE7⟩
      have hEc := hE06.trans hE7
      (conv => whnf)
      refine ⟨?_, hEc⟩
      unfold vmB
      rw [decide_eq_true hT4, decide_eq_true hW5, hiT, hiW, hok, hr1]; rfl
    · have hEc := hE06
      (conv => whnf)
      refine ⟨?_, hEc⟩
      unfold vmB
      rw [hr1, Bool.false_and, Bool.and_false, Bool.and_false, Bool.and_false, Bool.and_false, Bool.and_false]
end Go.Proofs.YtfeegacmmfgjfaaGreatDoorX

/-!  Package tagger: the index of a name; words that are searched. -/
set_option linter.unusedVariables false
set_option maxRecDepth 10000
namespace Go.Proofs.YtfeegacmmfgjfaaGreatDoorX
open Go Go.RowKit Go.Proofs Go.Proofs.YtfeegacmmfgjfaaGreatDoorM
theorem isNaNs2 (s : List UInt8) (w : World) : Ret Tryz.prog 135 #[.string (str s)] w fun v w' => v = .bool false ∧ w' = w := by
  refine fn_ret tok Tryz.func135 (by kernel_rfl) rfl rfl ?_
  (conv => whnf)
  rw [strEq_str, decide_eq_true rfl]
  exact ⟨rfl, rfl⟩
theorem lessS (a b : List UInt8) (w : World) : Ret Tryz.prog 127 #[.string (str a), .string (str b)] w fun v w' => v = .bool (lts a b) ∧ w' = w := by
  refine fn_ret tok Tryz.func127 (by kernel_rfl) rfl rfl ?_
  (conv => whnf)
  refine (isNaNs a w).call ?_
  rintro _ w ⟨rfl, rfl⟩
  (conv => whnf)
  rw [strLt_str, sLt_lts]
  exact ⟨rfl, rfl⟩
def bsI (xs : List Str) (t : Str) : Nat → Nat → Nat → Nat
  | 0, i, _ => i
  | f + 1, i, j => if i < j then (if lts (xs.getD ((i + j) / 2) []) t = true then bsI xs t f ((i + j) / 2 + 1) j else bsI xs t f i ((i + j) / 2)) else i
def idx (xs : List Str) (t : Str) : Nat := if bsI xs t xs.length 0 xs.length < xs.length ∧ xs.getD (bsI xs t xs.length 0 xs.length) [] = t then bsI xs t xs.length 0 xs.length else xs.length
theorem bsI_stop {xs : List Str} {t : Str} {f i j : Nat} (h : ¬ i < j) : bsI xs t f i j = i := by
  cases f with
  | zero => rfl
  | succ f => rw [bsI, if_neg h]
theorem shr1 (n : Nat) : ((n : Nat) : Int).fdiv (2 ^ (min (1 : Int).toNat IntKind.u64.bits)) = ((n / 2 : Nat) : Int) := by
  show ((n : Nat) : Int).fdiv 2 = _
  rw [Int.fdiv_eq_ediv_of_nonneg _ (by decide)]
  push_cast; rfl
theorem bsearch (S : Nat → Prop) (A : Option Addr) (m c : Nat) (xs : List Str) (t : Str) (w : World) (h : SlR kStr S w (.slice A m c) xs) (hl : xs.length ≤ 1000000) :
    Ret Tryz.prog 101 #[.slice A m c, .string (str t)] w fun v w' => (∃ i : Nat, v = .tuple #[.int .i64 i, .bool (decide (bsI xs t xs.length 0 xs.length < xs.length ∧ xs.getD (bsI xs t xs.length 0 xs.length) [] = t))] ∧ i = bsI xs t xs.length 0 xs.length) ∧ w' = w := by
  obtain ⟨rfl, hc, hm⟩ := h.len
  refine fn_ret tok Tryz.func101 (by kernel_rfl) rfl rfl ?_
  (conv => whnf)
  refine loop_rule tok [7, 8] [0, 1, 6] (fun vs w' => ∃ i j f : Nat, vs = [.int .i64 i, .int .i64 j] ∧ i ≤ j ∧ j ≤ xs.length ∧ j - i ≤ f ∧ bsI xs t f i j = bsI xs t xs.length 0 xs.length ∧ w' = w) (fun vs w => match vs with | [.int _ i, .int _ j] => j.toNat - i.toNat | _ => 0) ?_
  (conv => whnf)
  refine ⟨⟨0, xs.length, xs.length, rfl, Nat.zero_le _, Nat.le_refl _, by omega, rfl, rfl⟩, ?_⟩
  rintro _ w ⟨i, j, f, rfl, hij, hj, hf, hb, rfl⟩
  (conv => whnf)
  refine condP_dec (fun h1 => ?_) (fun h1 => ?_)
  · obtain ⟨f, rfl⟩ : ∃ g, f = g + 1 := ⟨f - 1, by omega⟩
    rw [bsI, if_pos (by omega)] at hb
    obtain ⟨ad, rfl⟩ := h.some_ (by omega)
    obtain ⟨x, hx⟩ : ∃ x, xs[(i + j) / 2]? = some x := ⟨_, List.getElem?_eq_getElem (by omega)⟩
    have gx : xs.getD ((i + j) / 2) [] = x := by rw [List.getD_eq_getElem?_getD, hx]; rfl
    rw [gx] at hb
    (repeat ((conv => whnf); first | refine numP_i64 (by omega) ?_ | refine numP_u64 (by omega) ?_ | refine numP_u8 (by omega) ?_ | refine Exists.intro _ (And.intro ‹_› ?_) | refine Exists.intro _ (And.intro rfl ?_) | refine And.intro (by omega) (Exists.intro _ (And.intro rfl ?_)) | refine And.intro (by omega) ?_)); (conv => whnf)
    have e1 : ((i : Int) + j).fdiv (2 ^ (min (1 : Int).toNat IntKind.u64.bits)) = (((i + j) / 2 : Nat) : Int) := by
      rw [← shr1 (i + j)]; push_cast; rfl
    rw [e1]
    have hcell : w.cell? (ad.add (((((i + j) / 2 : Nat)) : Int).toNat * 1)) = some (.string (str x)) := by rw [Int.toNat_natCast]; exact h.strg hx
    (repeat ((conv => whnf); first | refine numP_i64 (by omega) ?_ | refine numP_u64 (by omega) ?_ | refine numP_u8 (by omega) ?_ | refine Exists.intro _ (And.intro ‹_› ?_) | refine Exists.intro _ (And.intro rfl ?_) | refine And.intro (by omega) (Exists.intro _ (And.intro rfl ?_)) | refine And.intro (by omega) ?_)); (conv => whnf)
    refine (lessS x t w).call ?_
    rintro _ w ⟨rfl, rfl⟩
    (conv => whnf)
    refine condP_cases (fun hlt => ?_) (fun hlt => ?_)
    · rw [if_pos hlt] at hb
      (repeat ((conv => whnf); first | refine numP_i64 (by omega) ?_ | refine numP_u64 (by omega) ?_ | refine numP_u8 (by omega) ?_ | refine Exists.intro _ (And.intro ‹_› ?_) | refine Exists.intro _ (And.intro rfl ?_) | refine And.intro (by omega) (Exists.intro _ (And.intro rfl ?_)) | refine And.intro (by omega) ?_)); (conv => whnf)
      exact ⟨⟨rfl, rfl⟩, ⟨(i + j) / 2 + 1, j, f, rfl, by omega, hj, by omega, hb, rfl⟩, by simp; omega⟩
    · rw [if_neg (by rw [hlt]; decide)] at hb
      (conv => whnf)
      exact ⟨⟨rfl, rfl⟩, ⟨i, (i + j) / 2, f, rfl, by omega, by omega, by omega, hb, rfl⟩, by simp; omega⟩
  · rw [bsI_stop (by omega)] at hb
    subst hb
    generalize bsI xs t xs.length 0 xs.length = i at *
    (conv => whnf)
    refine condP_dec (fun h2 => ?_) (fun h2 => ?_)
    · obtain ⟨ad, rfl⟩ := h.some_ (by omega)
      obtain ⟨x, hx⟩ : ∃ x, xs[i]? = some x := ⟨_, List.getElem?_eq_getElem (by omega)⟩
      have gx : xs.getD i [] = x := by rw [List.getD_eq_getElem?_getD, hx]; rfl
      have hcell : w.cell? (ad.add ((i : Int).toNat * 1)) = some (.string (str x)) := by rw [Int.toNat_natCast]; exact h.strg hx
      rw [gx]
      (repeat ((conv => whnf); first | refine numP_i64 (by omega) ?_ | refine numP_u64 (by omega) ?_ | refine numP_u8 (by omega) ?_ | refine Exists.intro _ (And.intro ‹_› ?_) | refine Exists.intro _ (And.intro rfl ?_) | refine And.intro (by omega) (Exists.intro _ (And.intro rfl ?_)) | refine And.intro (by omega) ?_)); (conv => whnf)
      refine condP_str (fun he => ?_) (fun he => ?_)
      · (conv => whnf)
        refine ⟨⟨i, ?_, rfl⟩, rfl⟩
        rw [decide_eq_true (show i < xs.length ∧ x = t from ⟨by omega, he⟩)]
      · (repeat ((conv => whnf); first | refine numP_i64 (by omega) ?_ | refine numP_u64 (by omega) ?_ | refine numP_u8 (by omega) ?_ | refine Exists.intro _ (And.intro ‹_› ?_) | refine Exists.intro _ (And.intro rfl ?_) | refine And.intro (by omega) (Exists.intro _ (And.intro rfl ?_)) | refine And.intro (by omega) ?_)); (conv => whnf)
        refine (isNaNs2 x w).call ?_
        rintro _ w ⟨rfl, rfl⟩
        (conv => whnf)
        refine ⟨⟨i, ?_, rfl⟩, rfl⟩
        rw [decide_eq_false (show ¬ (i < xs.length ∧ x = t) from fun h => he h.2)]
    · (conv => whnf)
      refine ⟨⟨i, ?_, rfl⟩, rfl⟩
      rw [decide_eq_false (show ¬ (i < xs.length ∧ _) from fun h => h2 (by omega))]
theorem index_ (S : Nat → Prop) (A : Option Addr) (m c : Nat) (xs : List Str) (t : Str) (w : World) (h : SlR kStr S w (.slice A m c) xs) (hl : xs.length ≤ 1000000) :
    Ret Tryz.prog 64 #[.slice A m c, .string (str t)] w fun v w' => v = .int .i64 (idx xs t : Nat) ∧ w' = w := by
  obtain ⟨rfl, hc, hm⟩ := h.len
  refine fn_ret tok Tryz.func64 (by kernel_rfl) rfl rfl ?_
  (conv => whnf)
  refine (bsearch S A _ c xs t w h hl).call ?_
  rintro _ w ⟨⟨i, rfl, rfl⟩, rfl⟩
  (conv => whnf)
  refine condP_not (condP_cases (fun hd => ?_) (fun hd => ?_))
  · have hp := of_decide_eq_true hd
    (conv => whnf)
    refine ⟨?_, rfl⟩
    unfold idx
    rw [if_pos hp]
  · have hp := of_decide_eq_false hd
    (conv => whnf)
    refine ⟨?_, rfl⟩
    unfold idx
    rw [if_neg hp]
theorem idx_le (xs : List Str) (t : Str) : idx xs t ≤ xs.length := by
  unfold idx
  split
  · rename_i h; omega
  · exact Nat.le_refl _
def badW (s : Str) : Bool := decide (s = []) || decide (40 < s.length)
theorem badW_ (s : List UInt8) (w : World) (hs : s.length ≤ 9223372036854775807) : Ret Tryz.prog 63 #[.string (str s)] w fun v w' => v = .bool (badW s) ∧ w' = w := by
  have hsz : ((str s).size : Int) = s.length := rfl
  refine fn_ret tok Tryz.func63 (by kernel_rfl) rfl rfl ?_
  (conv => whnf)
  refine condP_str (b := []) (fun h => ?_) fun h => ?_
  · (conv => whnf)
    subst h
    exact ⟨rfl, rfl⟩
  · (conv => whnf)
    refine ⟨?_, rfl⟩
    unfold badW
    rw [decide_eq_false h, dec_eq]
    have : decide ((40 : Int) < ((str s).size : Int)) = decide (40 < s.length) := decide_eq_decide.2 (by omega)
    rw [this]; rfl
theorem containsF (S : Nat → Prop) (A : Option Addr) (m c : Nat) (xs : List Str) (w : World) (h : SlR kStr S w (.slice A m c) xs) (hl : ∀ s ∈ xs, s.length ≤ 9223372036854775807) :
    Ret Tryz.prog 62 #[.slice A m c, .func (.func 63) #[] #[]] w fun v w' => v = .bool (xs.any badW) ∧ w' = w := by
  obtain ⟨rfl, hc, hm⟩ := h.len
  have hix : Ret Tryz.prog 84 #[.slice A xs.length c, .func (.func 63) #[] #[]] w fun v w' => (∃ i : Int, v = .int .i64 i ∧ (0 ≤ i ↔ xs.any badW = true)) ∧ w' = w := by
    refine fn_ret tok Tryz.func84 (by kernel_rfl) rfl rfl ?_
    (conv => whnf)
    refine loop_rule tok [8] [0, 1, 7] (fun vs w' => ∃ i : Nat, vs = [.int .i64 i] ∧ i ≤ xs.length ∧ (xs.take i).any badW = false ∧ w' = w) (fun vs w => match vs with | [.int _ i] => xs.length - i.toNat | _ => 0) ?_
    (conv => whnf)
    refine ⟨⟨0, rfl, Nat.zero_le _, rfl, rfl⟩, ?_⟩
    rintro _ w ⟨i, rfl, hi, hno, rfl⟩
    (conv => whnf)
    refine condP_dec (fun h1 => ?_) (fun h1 => ?_)
    · obtain ⟨ad, rfl⟩ := h.some_ (by omega)
      obtain ⟨x, hx⟩ : ∃ x, xs[i]? = some x := ⟨_, List.getElem?_eq_getElem (by omega)⟩
      have hxm := List.mem_of_getElem? hx
      have hcell : w.cell? (ad.add ((i : Int).toNat * 1)) = some (.string (str x)) := by rw [Int.toNat_natCast]; exact h.strg hx
      (repeat ((conv => whnf); first | refine numP_i64 (by omega) ?_ | refine numP_u64 (by omega) ?_ | refine numP_u8 (by omega) ?_ | refine Exists.intro _ (And.intro ‹_› ?_) | refine Exists.intro _ (And.intro rfl ?_) | refine And.intro (by omega) (Exists.intro _ (And.intro rfl ?_)) | refine And.intro (by omega) ?_)); (conv => whnf)
      refine (badW_ x w (hl x hxm)).call ?_
      rintro _ w ⟨rfl, rfl⟩
      (conv => whnf)
      refine condP_cases (fun hb => ?_) (fun hb => ?_)
      · (conv => whnf)
        exact ⟨⟨i, rfl, ⟨fun _ => List.any_eq_true.2 ⟨x, hxm, hb⟩, fun _ => by omega⟩⟩, rfl⟩
      · (repeat ((conv => whnf); first | refine numP_i64 (by omega) ?_ | refine numP_u64 (by omega) ?_ | refine numP_u8 (by omega) ?_ | refine Exists.intro _ (And.intro ‹_› ?_) | refine Exists.intro _ (And.intro rfl ?_) | refine And.intro (by omega) (Exists.intro _ (And.intro rfl ?_)) | refine And.intro (by omega) ?_)); (conv => whnf)
        refine ⟨⟨rfl, rfl⟩, ⟨i + 1, rfl, by omega, ?_, rfl⟩, by simp; omega⟩
        rw [List.take_add_one, hx, List.any_append, hno]; simp [hb]
    · obtain rfl : i = xs.length := by omega
      rw [List.take_length] at hno
      (conv => whnf)
      exact ⟨⟨-1, rfl, ⟨fun h => by omega, fun h => by rw [hno] at h; cases h⟩⟩, rfl⟩
  refine fn_ret tok Tryz.func62 (by kernel_rfl) rfl rfl ?_
  (conv => whnf)
  refine hix.call ?_
  rintro _ w ⟨⟨i, rfl, hi⟩, rfl⟩
  (conv => whnf)
  refine ⟨?_, rfl⟩
  cases hb : xs.any badW with
  | true => rw [dec_true (hi.2 hb)]
  | false => rw [dec_false (fun h => by rw [hi.1 h] at hb; cases hb)]
end Go.Proofs.YtfeegacmmfgjfaaGreatDoorX

/-!  Package tagger: one step. -/
set_option linter.unusedVariables false
set_option maxRecDepth 10000
namespace Go.Proofs.YtfeegacmmfgjfaaGreatDoorX
open Go Go.RowKit Go.Proofs Go.Proofs.YtfeegacmmfgjfaaGreatDoorM
def cmpLI : List Int → List Int → Int
  | [], [] => 0
  | [], _ :: _ => -1
  | _ :: _, [] => 1
  | a :: r, b :: s => if cmpZ a b ≠ 0 then cmpZ a b else cmpLI r s
theorem getI_drop {xs : List Int} {i : Nat} (h : i < xs.length) : xs.drop i = xs.getD i 0 :: xs.drop (i + 1) := by
  rw [List.drop_eq_getElem_cons h, List.getD_eq_getElem?_getD, List.getElem?_eq_getElem h]; rfl
theorem compareL (S S' : Nat → Prop) (A A' : Option Addr) (m c m' c' : Nat) (xs ys : List Int) (w : World) (h : SlR (kInt .i64) S w (.slice A m c) xs) (h' : SlR (kInt .i64) S' w (.slice A' m' c') ys) :
    Ret Tryz.prog 67 #[.slice A m c, .slice A' m' c'] w fun v w' => v = .int .i64 (cmpLI xs ys) ∧ w' = w := by
  obtain ⟨rfl, hc, hm⟩ := h.len
  obtain ⟨rfl, hc', hm'⟩ := h'.len
  refine fn_ret tok Tryz.func67 (by kernel_rfl) rfl rfl ?_
  (conv => whnf)
  refine loop_rule tok [11] [0, 1, 9, 10] (fun vs w' => ∃ i : Nat, vs = [.int .i64 i] ∧ i ≤ xs.length ∧ i ≤ ys.length ∧ cmpLI xs ys = cmpLI (xs.drop i) (ys.drop i) ∧ w' = w) (fun vs w => match vs with | [.int _ i] => xs.length - i.toNat | _ => 0) ?_
  (conv => whnf)
  refine ⟨⟨0, rfl, Nat.zero_le _, Nat.zero_le _, rfl, rfl⟩, ?_⟩
  rintro _ w ⟨i, rfl, hi, hi', he, rfl⟩
  (conv => whnf)
  refine condP_dec (fun h1 => ?_) (fun h1 => ?_)
  · have hx := getI_drop (xs := xs) (i := i) (by omega)
    obtain ⟨ad, rfl, hcell⟩ := h.i (i : Int) (by omega) (by omega)
    (repeat ((conv => whnf); first | refine numP_i64 (by omega) ?_ | refine numP_u64 (by omega) ?_ | refine numP_u8 (by omega) ?_ | refine Exists.intro _ (And.intro ‹_› ?_) | refine Exists.intro _ (And.intro rfl ?_) | refine And.intro (by omega) (Exists.intro _ (And.intro rfl ?_)) | refine And.intro (by omega) ?_)); (conv => whnf)
    rw [Int.toNat_natCast] at hcell ⊢
    refine condP_dec (fun h2 => ?_) (fun h2 => ?_)
    · (conv => whnf)
      refine ⟨?_, rfl⟩
      have hy0 : ys.drop i = [] := List.drop_of_length_le (by omega)
      rw [he, hx, hy0]; rfl
    · have hy := getI_drop (xs := ys) (i := i) (by omega)
      obtain ⟨ad', rfl, hcell'⟩ := h'.i (i : Int) (by omega) (by omega)
      (repeat ((conv => whnf); first | refine numP_i64 (by omega) ?_ | refine numP_u64 (by omega) ?_ | refine numP_u8 (by omega) ?_ | refine Exists.intro _ (And.intro ‹_› ?_) | refine Exists.intro _ (And.intro rfl ?_) | refine And.intro (by omega) (Exists.intro _ (And.intro rfl ?_)) | refine And.intro (by omega) ?_)); (conv => whnf)
      rw [Int.toNat_natCast] at hcell' ⊢
      refine (cmp_Compare_i (xs.getD i 0) (ys.getD i 0) w).call ?_
      rintro _ w ⟨rfl, rfl⟩
      (conv => whnf)
      refine condP_not (condP_dec (fun h3 => ?_) (fun h3 => ?_))
      · (repeat ((conv => whnf); first | refine numP_i64 (by omega) ?_ | refine numP_u64 (by omega) ?_ | refine numP_u8 (by omega) ?_ | refine Exists.intro _ (And.intro ‹_› ?_) | refine Exists.intro _ (And.intro rfl ?_) | refine And.intro (by omega) (Exists.intro _ (And.intro rfl ?_)) | refine And.intro (by omega) ?_)); (conv => whnf)
        refine ⟨⟨rfl, rfl⟩, ⟨i + 1, rfl, by omega, by omega, ?_, rfl⟩, by simp; omega⟩
        rw [he, hx, hy, cmpLI, if_neg (fun h => h h3)]
      · (conv => whnf)
        refine ⟨?_, rfl⟩
        rw [he, hx, hy, cmpLI, if_pos h3]
  · have hx0 : xs.drop i = [] := List.drop_of_length_le (by omega)
    (conv => whnf)
    refine condP_dec (fun h2 => ?_) (fun h2 => ?_)
    · (conv => whnf)
      refine ⟨?_, rfl⟩
      rw [he, hx0, getI_drop (xs := ys) (i := i) (by omega)]; rfl
    · (conv => whnf)
      have hy0 : ys.drop i = [] := List.drop_of_length_le (by omega)
      refine ⟨?_, rfl⟩
      rw [he, hx0, hy0]; rfl
/-- The run that a pointer points to. -/
def RunAt (w : World) (br : Nat) (vT vW vN vE vC : Value) : Prop := w.heap[br]? = some (.cells #[vT, vW, vN, vE, vC, .int .i64 0] 86 (0, 0))
theorem ends (br n c : Nat) (A : Option Addr) (vW vN vE vC : Value) (w : World) (h : RunAt w br (.slice A n c) vW vN vE vC) : Ret Tryz.prog 66 #[.pointer (some ⟨br, 0, none⟩)] w fun v w' => v = .int .i64 (n : Nat) ∧ w' = w := by
  refine fn_ret tok Tryz.func66 (by kernel_rfl) rfl rfl ?_
  (conv => whnf)
  refine ⟨_, by rw [addr_add, addr_add, cell_of_blk h]; rfl, ?_⟩
  (conv => whnf)
  exact ⟨rfl, rfl⟩
theorem known (r : Value) (s : Str) (w : World) : Ret Tryz.prog 65 #[r, .string (str s), .int .i64 0] w fun v w' => v = .string (str s) ∧ w' = w := by
  refine fn_ret tok Tryz.func65 (by kernel_rfl) rfl rfl ?_
  (conv => whnf)
  refine condP_not (condP_yes rfl ?_)
  (conv => whnf)
  exact ⟨rfl, rfl⟩
theorem times (r : Value) (p q : Rat) (w : World) (hL : Laid w) (hp : Dg 190 p) (hq : Dg 190 q) : Ret Tryz.prog 31 #[r, .string (str (qtxt p)), .string (str (qtxt q))] w fun v w' => v = .string (str (qtxt (p * q))) ∧ Ext w w' := by
  refine fn_ret tok Tryz.func31 (by kernel_rfl) rfl rfl ?_
  (conv => whnf)
  refine (rat_Mul p q w hL hp hq).call ?_
  rintro _ w1 ⟨rfl, hE1⟩
  (conv => whnf)
  refine (known r (qtxt (p * q)) w1).call ?_
  rintro _ w1 ⟨rfl, rfl⟩
  (conv => whnf)
  exact ⟨rfl, hE1⟩
end Go.Proofs.YtfeegacmmfgjfaaGreatDoorX

/-!  Package tagger: the better one. -/
set_option linter.unusedVariables false
set_option maxRecDepth 10000
namespace Go.Proofs.YtfeegacmmfgjfaaGreatDoorX
open Go Go.RowKit Go.Proofs Go.Proofs.YtfeegacmmfgjfaaGreatDoorM
/-- A list of tags with its probability. -/
abbrev V := Rat × List Int
def RV (w0 w : World) (v : Value) (x : V) : Prop := ∃ sl, v = .agg #[.string (str (qtxt x.1)), sl] ∧ Held (kInt .i64) 3 w0 w sl x.2
def isBetter (a b : V) : Prop := qz a.1 b.1 < 0 ∨ (qz a.1 b.1 = 0 ∧ b.1 ≠ 0 ∧ cmpLI b.2 a.2 < 0)
instance (a b : V) : Decidable (isBetter a b) := by unfold isBetter; infer_instance
def betterV (a b : V) : V := if isBetter a b then b else a
theorem better (a b : V) (sa sb : Value) (S S' : Nat → Prop) (w : World) (hL : Laid w) (ha : SlR (kInt .i64) S w sa a.2) (hb : SlR (kInt .i64) S' w sb b.2) (hda : Dg 190 a.1) (hdb : Dg 190 b.1) :
    Ret Tryz.prog 34 #[.agg #[.string (str (qtxt a.1)), sa], .agg #[.string (str (qtxt b.1)), sb]] w fun v w' => v = (if isBetter a b then .agg #[.string (str (qtxt b.1)), sb] else .agg #[.string (str (qtxt a.1)), sa]) ∧ Ext w w' := by
  obtain ⟨A1, c1, rfl, _, _⟩ := ha.shape
  obtain ⟨A2, c2, rfl, _, _⟩ := hb.shape
  refine fn_ret tok Tryz.func34 (by kernel_rfl) rfl rfl ?_
  (conv => whnf)
  intro b2 w1 hw1
  (conv => whnf)
  intro b3 w2 hw2
  (conv => whnf)
  intro b4 w3 hw3
  have hE3 : Ext w w3 := ((hw1.chg No).trans (hw2.chg No)).trans (hw3.chg No)
  have hb2 := (hw3.chg No).blk ((hw2.chg No).blk hw1.blk (fun h => h)) (fun h => h)
  have hb3 := (hw3.chg No).blk hw2.blk (fun h => h)
  have hb4 := hw3.blk
  have hn4 : w.heap.size ≤ b4 := by rw [hw3.hb]; exact ((hw1.chg No).trans (hw2.chg No)).size
  clear hw1 hw2 hw3
  (conv => whnf)
  refine ⟨_, by rw [addr_add, cell_of_blk hb2]; rfl, ?_⟩
  (conv => whnf)
  refine ⟨_, by rw [addr_add, cell_of_blk hb3]; rfl, ?_⟩
  (conv => whnf)
  refine (rat_Cmp a.1 b.1 w3 (hL.ext hE3) ⟨hda.1, hda.2⟩ ⟨hdb.1, hdb.2⟩).call ?_
  rintro _ w4 ⟨rfl, hE34⟩
  have hE4 := hE3.trans hE34
  have hb2 := hE34.blk hb2 (fun h => h)
  have hb3 := hE34.blk hb3 (fun h => h)
  have hb4 := hE34.blk hb4 (fun h => h)
  have hb2 : w4.heap[b2]? = some (.cells #[.string (str (qtxt a.1)), .slice A1 a.2.length c1] 80 (0, 0)) := hb2
  have hb3 : w4.heap[b3]? = some (.cells #[.string (str (qtxt b.1)), .slice A2 b.2.length c2] 80 (0, 0)) := hb3
  have hb4 : w4.heap[b4]? = some (.cells #[.string ⟨#[]⟩, .slice none 0 0] 80 (0, 0)) := hb4
  by_cases h1 : qz a.1 b.1 < 0
  · have hbet : isBetter a b := .inl h1
    rw [if_neg (by omega), if_pos h1]
    (conv => whnf)
    refine condP_yes (by omega) ?_
    (conv => whnf)
    refine ⟨_, rfl, cellsAt_blk hb3, ?_⟩
    obtain ⟨wz, hrz, hbz, hCz⟩ := store_blk (P := Tryz.prog) (vs := [.string (str (qtxt b.1)), .slice A2 b.2.length c2]) hb4 rfl (by intro v hv; simp at hv; rcases hv with rfl | rfl <;> rfl)
    (conv => whnf)
    refine ⟨rfl, wz, hrz, ?_⟩
    (conv => whnf)
    refine ⟨_, rfl, cellsAt_blk hbz, ?_⟩
    exact ⟨by rw [if_pos hbet], hE4.then hCz fun i hi e => by omega⟩
  by_cases h2 : qz a.1 b.1 = 0
  · rw [if_pos h2]
    (conv => whnf)
    refine condP_no (by omega) ?_
    (conv => whnf)
    refine condP_yes rfl ?_
    (conv => whnf)
    refine ⟨_, by rw [addr_add, cell_of_blk hb3]; rfl, ?_⟩
    (conv => whnf)
    refine condP_not (condP_str (b := [48]) (fun h3 => ?_) (fun h3 => ?_))
    · have h0 : b.1 = 0 := qtxt_inj (h3.trans qtxt_zero_.symm)
      have hbet : ¬ isBetter a b := fun h => by rcases h with h | ⟨_, h, _⟩; exact h1 h; exact h h0
      (conv => whnf)
      refine ⟨_, rfl, cellsAt_blk hb2, ?_⟩
      obtain ⟨wz, hrz, hbz, hCz⟩ := store_blk (P := Tryz.prog) (vs := [.string (str (qtxt a.1)), .slice A1 a.2.length c1]) hb4 rfl (by intro v hv; simp at hv; rcases hv with rfl | rfl <;> rfl)
      (conv => whnf)
      refine ⟨rfl, wz, hrz, ?_⟩
      (conv => whnf)
      refine ⟨_, rfl, cellsAt_blk hbz, ?_⟩
      exact ⟨by rw [if_neg hbet], hE4.then hCz fun i hi e => by omega⟩
    · have h0 : b.1 ≠ 0 := fun e => h3 (by rw [e]; exact qtxt_zero_)
      (conv => whnf)
      refine ⟨_, by rw [addr_add, cell_of_blk hb3]; rfl, ?_⟩
      (conv => whnf)
      refine ⟨_, by rw [addr_add, cell_of_blk hb2]; rfl, ?_⟩
      (conv => whnf)
      refine (compareL S' S A2 A1 _ c2 _ c1 b.2 a.2 w4 (hb.ext hE4) (ha.ext hE4)).call ?_
      rintro _ w4 ⟨rfl, rfl⟩
      (conv => whnf)
      refine condP_dec (fun h4 => ?_) (fun h4 => ?_)
      · have hbet : isBetter a b := .inr ⟨h2, h0, h4⟩
        (conv => whnf)
        refine ⟨_, rfl, cellsAt_blk hb3, ?_⟩
        obtain ⟨wz, hrz, hbz, hCz⟩ := store_blk (P := Tryz.prog) (vs := [.string (str (qtxt b.1)), .slice A2 b.2.length c2]) hb4 rfl (by intro v hv; simp at hv; rcases hv with rfl | rfl <;> rfl)
        (conv => whnf)
        refine ⟨rfl, wz, hrz, ?_⟩
        (conv => whnf)
        refine ⟨_, rfl, cellsAt_blk hbz, ?_⟩
        exact ⟨by rw [if_pos hbet], hE4.then hCz fun i hi e => by omega⟩
      · have hbet : ¬ isBetter a b := fun h => by rcases h with h | ⟨_, _, h⟩; exact h1 h; exact h4 h
        (conv => whnf)
        refine ⟨_, rfl, cellsAt_blk hb2, ?_⟩
        obtain ⟨wz, hrz, hbz, hCz⟩ := store_blk (P := Tryz.prog) (vs := [.string (str (qtxt a.1)), .slice A1 a.2.length c1]) hb4 rfl (by intro v hv; simp at hv; rcases hv with rfl | rfl <;> rfl)
        (conv => whnf)
        refine ⟨rfl, wz, hrz, ?_⟩
        (conv => whnf)
        refine ⟨_, rfl, cellsAt_blk hbz, ?_⟩
        exact ⟨by rw [if_neg hbet], hE4.then hCz fun i hi e => by omega⟩
  · have hbet : ¬ isBetter a b := fun h => by rcases h with h | ⟨h, _⟩; exact h1 h; exact h2 h
    rw [if_neg h2, if_neg h1]
    (conv => whnf)
    refine condP_no (by omega) ?_
    (conv => whnf)
    refine condP_no (by omega) ?_
    (conv => whnf)
    refine ⟨_, rfl, cellsAt_blk hb2, ?_⟩
    obtain ⟨wz, hrz, hbz, hCz⟩ := store_blk (P := Tryz.prog) (vs := [.string (str (qtxt a.1)), .slice A1 a.2.length c1]) hb4 rfl (by intro v hv; simp at hv; rcases hv with rfl | rfl <;> rfl)
    (conv => whnf)
    refine ⟨rfl, wz, hrz, ?_⟩
    (conv => whnf)
    refine ⟨_, rfl, cellsAt_blk hbz, ?_⟩
    exact ⟨by rw [if_neg hbet], hE4.then hCz fun i hi e => by omega⟩
end Go.Proofs.YtfeegacmmfgjfaaGreatDoorX

/-!  Package tagger: the step of Tag. -/
set_option linter.unusedVariables false
set_option maxRecDepth 10000
namespace Go.Proofs.YtfeegacmmfgjfaaGreatDoorX
open Go Go.RowKit Go.Proofs Go.Proofs.YtfeegacmmfgjfaaGreatDoorM
def stepV (x : V) (tag : Int) (p : Rat) : V := if x.1 * p = 0 then (0, []) else (x.1 * p, if 0 ≤ tag then x.2 ++ [tag] else x.2)
theorem tag1 (b7 br : Nat) (x : V) (sl : Value) (tag : Int) (p : Rat) (w0 w : World) (hL : Laid w) (h7 : w.heap[b7]? = some (.cells #[.pointer (some ⟨br, 0, none⟩)] 75 (0, 0))) (hx : Held (kInt .i64) 3 w0 w sl x.2) (hl : x.2.length ≤ 1000) (hd : Dg 190 x.1) (hp : Dg 190 p) :
    Ret Tryz.prog 30 #[.agg #[.string (str (qtxt x.1)), sl], .int .i64 tag, .string (str (qtxt p)), .pointer (some ⟨b7, 0, none⟩)] w fun r w' => ∃ sl', r = .agg #[.string (str (qtxt (stepV x tag p).1)), sl'] ∧ Fresh (kInt .i64) 3 w w' sl' (stepV x tag p).2 := by
  obtain ⟨A, c, rfl, _, _⟩ := hx.shape
  refine fn_ret tok Tryz.func30 (by kernel_rfl) rfl rfl ?_
  (conv => whnf)
  intro b4 w1 hw1
  (conv => whnf)
  intro b8 w2 hw2
  have hE2 : Ext w w2 := (hw1.chg No).trans (hw2.chg No)
  have hb4 : w2.heap[b4]? = some (.cells #[.string (str (qtxt x.1)), .slice A x.2.length c] 80 (0, 0)) := (hw2.chg No).blk hw1.blk (fun h => h)
  have hb8 : w2.heap[b8]? = some (.cells #[.string ⟨#[]⟩, .slice none 0 0] 80 (0, 0)) := hw2.blk
  have hn8 : w.heap.size ≤ b8 := by rw [hw2.hb]; exact (hw1.chg No).size
  clear hw1 hw2
  (conv => whnf)
  refine ⟨_, by rw [cell_of_blk (hE2.blk h7 (fun h => h))]; rfl, ?_⟩
  (conv => whnf)
  refine ⟨_, by rw [addr_add, cell_of_blk hb4]; rfl, ?_⟩
  (conv => whnf)
  refine (times _ x.1 p w2 (hL.ext hE2) hd hp).call ?_
  rintro _ w3 ⟨rfl, hE23⟩
  have hE3 := hE2.trans hE23
  have hb4 := hE23.blk hb4 (fun h => h)
  have hb8 := hE23.blk hb8 (fun h => h)
  (conv => whnf)
  refine condP_str (b := [48]) (fun h0 => ?_) (fun h0 => ?_)
  · have hz : x.1 * p = 0 := qtxt_inj (h0.trans qtxt_zero_.symm)
    have hs : stepV x tag p = (0, []) := if_pos hz
    rw [hs, hz]
    obtain ⟨wz, hrz, hbz, hCz⟩ := store_blk (P := Tryz.prog) (vs := [.string (str (qtxt 0)), .slice none 0 0]) hb8 rfl (by intro v hv; simp at hv; rcases hv with rfl | rfl <;> rfl)
    (conv => whnf)
    refine ⟨rfl, wz, hrz, ?_⟩
    (conv => whnf)
    refine ⟨_, rfl, cellsAt_blk hbz, ?_⟩
    exact ⟨_, rfl, .nil _ _ (hE3.then hCz fun i hi e => by omega)⟩
  · have hz : x.1 * p ≠ 0 := fun e => h0 (by rw [e]; exact qtxt_zero_)
    have hs : stepV x tag p = (x.1 * p, if 0 ≤ tag then x.2 ++ [tag] else x.2) := if_neg hz
    rw [hs]
    (conv => whnf)
    refine ⟨_, by rw [addr_add, cell_of_blk hb4]; rfl, ?_⟩
    (conv => whnf)
    refine (cloneI (hx.ext hE3) (by omega)).call ?_
    intro vc w4 hFc
    have hE4 := hE3.trans hFc.ext
    have hb8 := hFc.ext.blk hb8 (fun h => h)
    have hs3 := hE3.size
    (conv => whnf)
    refine condP_dec (fun ht => ?_) (fun ht => ?_)
    · (conv => whnf)
      intro bA w5 hwA
      (conv => whnf)
      refine (kInt_flat .i64).app (x := tag) tok rfl rfl rfl rfl rfl hwA hFc rfl (by omega) (by omega) (fun v5 w6 hF6 hC6 ho6 => ?_)
      have hE46 : Ext w3 w6 := hF6.ext
      have hn8' : b8 < w3.heap.size := (Array.getElem?_eq_some_iff.1 (show w3.heap[b8]? = some _ by assumption)).1
      have hb86 := hE46.blk (by assumption : w3.heap[b8]? = some (.cells #[.string ⟨#[]⟩, .slice none 0 0] 80 (0, 0))) (fun h => h)
      obtain ⟨A5, c5, rfl, _, _⟩ := hF6.shape
      obtain ⟨wz, hrz, hbz, hCz⟩ := store_blk (P := Tryz.prog) (vs := [.string (str (qtxt (x.1 * p))), .slice A5 (x.2 ++ [tag]).length c5]) hb86 rfl (by intro v hv; simp at hv; rcases hv with rfl | rfl <;> rfl)
      (conv => whnf)
      refine ⟨rfl, wz, hrz, ?_⟩
      (conv => whnf)
      refine ⟨_, rfl, cellsAt_blk hbz, ?_⟩
      refine ⟨_, rfl, ?_⟩
      rw [if_pos ht]
      exact (kInt_flat .i64).stay (hF6.back hE3) hCz (fun b hb => by omega) fun b hb e => by have := (hF6.newB hb).1; omega
    · obtain ⟨A5, c5, rfl, _, _⟩ := hFc.shape
      obtain ⟨wz, hrz, hbz, hCz⟩ := store_blk (P := Tryz.prog) (vs := [.string (str (qtxt (x.1 * p))), .slice A5 x.2.length c5]) hb8 rfl (by intro v hv; simp at hv; rcases hv with rfl | rfl <;> rfl)
      have hn8' : b8 < w3.heap.size := (Array.getElem?_eq_some_iff.1 (by assumption : w3.heap[b8]? = some (.cells #[.string ⟨#[]⟩, .slice none 0 0] 80 (0, 0)))).1
      (conv => whnf)
      refine ⟨rfl, wz, hrz, ?_⟩
      (conv => whnf)
      refine ⟨_, rfl, cellsAt_blk hbz, ?_⟩
      refine ⟨_, rfl, ?_⟩
      rw [if_neg ht]
      exact (kInt_flat .i64).stay (hFc.back hE3) hCz (fun b hb => by omega) fun b hb e => by have := (hFc.newB hb).1; omega
end Go.Proofs.YtfeegacmmfgjfaaGreatDoorX

/-!  Package tagger: start. -/
set_option linter.unusedVariables false
set_option maxRecDepth 10000
namespace Go.Proofs.YtfeegacmmfgjfaaGreatDoorX
open Go Go.RowKit Go.Proofs Go.Proofs.YtfeegacmmfgjfaaGreatDoorM
def badArgs (T W : List Str) (rN rE : List (List Rat)) (ws : List Str) : Bool := !vmB T W rN rE || (decide (200 < ws.length) || ws.any badW)
theorem start (S S' : Nat → Prop) (w : World) (vT vW vN vE : Value) (T W : List Str) (rN rE : List (List Rat)) (A c : _) (m : Nat) (ws : List Str) (hL : Laid w) (hT : SlR kStr S w vT T) (hW : SlR kStr S w vW W) (hN : SlR (kSl kStr) S w vN (rN.map fun r => r.map qtxt)) (hE : SlR (kSl kStr) S w vE (rE.map fun r => r.map qtxt))
    (hd : ModD T W rN rE 190) (hTl : T.length ≤ 1000000) (hWl : W.length ≤ 1000000) (hws : SlR kStr S' w (.slice A m c) ws) (hwl : ∀ s ∈ ws, s.length ≤ 9223372036854775807) (hwn : ws.length ≤ 1000000) :
    Ret Tryz.prog 29 #[.agg #[vT, vW, vN, vE], .slice A m c] w fun r w' => Ext w w' ∧ ((badArgs T W rN rE ws = true ∧ r = .tuple #[.pointer none, .int .i64 1]) ∨
      (badArgs T W rN rE ws = false ∧ ∃ (br : Nat) (vC : Value), r = .tuple #[.pointer (some ⟨br, 0, none⟩), .int .i64 0] ∧ RunAt w' br vT vW vN vE vC ∧ Fresh (kInt .i64) 3 w w' vC (ws.map fun s => (idx W s : Int)))) := by
  have hT := hT.old
  have hW := hW.old
  have hN := hN.old
  have hE := hE.old
  have hws := hws.old
  obtain ⟨rfl, hcw, hmw⟩ := hws.len
  obtain ⟨A1, c1, rfl, _, _⟩ := hT.shape
  obtain ⟨A2, c2, rfl, _, _⟩ := hW.shape
  obtain ⟨A3, c3, rfl, _, _⟩ := hN.shape
  obtain ⟨A4, c4, rfl, _, _⟩ := hE.shape
  refine fn_ret tok Tryz.func29 (by kernel_rfl) rfl rfl ?_
  (conv => whnf)
  intro b2 w1 hw1
  have hE1 : Ext w w1 := hw1.chg _
  have hb2 : w1.heap[b2]? = some (.cells #[.slice A1 T.length c1, .slice A2 W.length c2, .slice A3 (rN.map fun r => r.map qtxt).length c3, .slice A4 (rE.map fun r => r.map qtxt).length c4] 36 (0, 0)) := hw1.blk
  have hn2 := hw1.hb
  clear hw1
  (conv => whnf)
  refine ⟨_, rfl, cellsAt_blk hb2, ?_⟩
  (conv => whnf)
  refine (validModel (Old w) w1 _ T W rN rE (hL.ext hE1) ⟨_, _, _, _, rfl, hT.ext hE1, hW.ext hE1, hN.ext hE1, hE.ext hE1⟩ hd hTl hWl).call ?_
  rintro _ w2 ⟨rfl, hE12⟩
  have hE2 := hE1.trans hE12
  have hb2 := hE12.blk hb2 (fun h => h)
  (conv => whnf)
  refine condP_not (condP_cases (fun hv => ?_) (fun hv => ?_))
  rotate_left
  · have hEc := hE2
    (conv => whnf)
    refine ⟨?_, .inl ⟨?_, rfl⟩⟩
    · exact hEc
    · unfold badArgs
      rw [hv]; rfl
  (conv => whnf)
  by_cases h200 : 200 < ws.length
  · have hEc := hE2
    refine condP_yes (by omega) ?_
    (conv => whnf)
    refine ⟨?_, .inl ⟨?_, rfl⟩⟩
    · exact hEc
    · unfold badArgs
      rw [decide_eq_true h200, Bool.true_or, Bool.or_true]
  refine condP_no (by omega) ?_
  (conv => whnf)
  refine (containsF (Old w) A _ c ws w2 (hws.ext hE2) hwl).call ?_
  rintro _ w2 ⟨rfl, rfl⟩
  (conv => whnf)
  refine condP_cases (fun hb => ?_) (fun hb => ?_)
  · have hEc := hE2
    (conv => whnf)
    refine ⟨?_, .inl ⟨?_, rfl⟩⟩
    · exact hEc
    · unfold badArgs
      rw [hb, Bool.or_true, Bool.or_true]
  have hgood : badArgs T W rN rE ws = false := by
    unfold badArgs
    rw [hv, hb, decide_eq_false h200]; rfl
  (conv => whnf)
  refine ⟨_, rfl, cellsAt_blk hb2, ?_⟩
  (conv => whnf)
  intro br w3 hw3
  have hE23 : Ext w2 w3 := hw3.chg _
  have hE3 := hE2.trans hE23
  have hbr : w3.heap[br]? = some (.cells #[.slice A1 T.length c1, .slice A2 W.length c2, .slice A3 (rN.map fun r => r.map qtxt).length c3, .slice A4 (rE.map fun r => r.map qtxt).length c4, .slice none 0 0, .int .i64 0] 86 (0, 0)) := hw3.blk
  have hb2 := hE23.blk hb2 (fun h => h)
  have hnr := hw3.hb
  have hs2 := hE2.size
  have hne : ¬ b2 = br := by have := (Array.getElem?_eq_some_iff.1 (by assumption : w2.heap[b2]? = some (.cells #[.slice A1 T.length c1, .slice A2 W.length c2, .slice A3 (rN.map fun r => r.map qtxt).length c3, .slice A4 (rE.map fun r => r.map qtxt).length c4] 36 (0, 0)))).1; omega
  clear hw3
  (conv => whnf)
  refine loop_rule tok [26] [2, 6, 24, 25] (fun vs w' => ∃ (i : Nat) (vC : Value), vs = [.int .i64 i] ∧ i ≤ ws.length ∧ w'.heap[b2]? = some (.cells #[.slice A1 T.length c1, .slice A2 W.length c2, .slice A3 (rN.map fun r => r.map qtxt).length c3, .slice A4 (rE.map fun r => r.map qtxt).length c4] 36 (0, 0)) ∧
      w'.heap[br]? = some (.cells #[.slice A1 T.length c1, .slice A2 W.length c2, .slice A3 (rN.map fun r => r.map qtxt).length c3, .slice A4 (rE.map fun r => r.map qtxt).length c4, vC, .int .i64 0] 86 (0, 0)) ∧ Fresh (kInt .i64) 3 w w' vC ((ws.take i).map fun s => (idx W s : Int)) ∧ (∀ b, vC.ownBlock = some b → b ≠ br)) (fun vs w => match vs with | [.int _ i] => ws.length - i.toNat | _ => 0) ?_
  (conv => whnf)
  refine ⟨⟨0, _, rfl, Nat.zero_le _, hb2, hbr, .nil _ _ hE3, fun b hb => by cases hb⟩, ?_⟩
  clear hb2 hbr
  rintro _ w4 ⟨i, vC, rfl, hi, hb2, hbr, hFC, hnbr⟩
  (conv => whnf)
  refine condP_dec (fun h1 => ?_) (fun h1 => ?_)
  · obtain ⟨ad, rfl⟩ := hws.some_ (by omega)
    obtain ⟨x, hx⟩ : ∃ x, ws[i]? = some x := ⟨_, List.getElem?_eq_getElem (by omega)⟩
    have hcell : w4.cell? (ad.add ((i : Int).toNat * 1)) = some (.string (str x)) := by rw [Int.toNat_natCast]; exact (hws.ext hFC.ext).strg hx
    have htk : (ws.take (i + 1)).map (fun s => (idx W s : Int)) = (ws.take i).map (fun s => (idx W s : Int)) ++ [(idx W x : Int)] := by
      rw [List.take_add_one, hx]; simp
    have hlt := List.length_take_le i ws
    (repeat ((conv => whnf); first | refine numP_i64 (by omega) ?_ | refine numP_u64 (by omega) ?_ | refine numP_u8 (by omega) ?_ | refine Exists.intro _ (And.intro ‹_› ?_) | refine Exists.intro _ (And.intro rfl ?_) | refine And.intro (by omega) (Exists.intro _ (And.intro rfl ?_)) | refine And.intro (by omega) ?_)); (conv => whnf)
    refine draw_meet [2, 6, 24, 25, 26] (fun vs w' => ∃ vC' : Value, vs = [.pointer (some ⟨b2, 0, none⟩), .pointer (some ⟨br, 0, none⟩), .slice (some ad) ws.length c, .int .i64 (ws.length : Nat), .int .i64 i] ∧
      w'.heap[br]? = some (.cells #[.slice A1 T.length c1, .slice A2 W.length c2, .slice A3 (rN.map fun r => r.map qtxt).length c3, .slice A4 (rE.map fun r => r.map qtxt).length c4, vC', .int .i64 0] 86 (0, 0)) ∧ Fresh (kInt .i64) 3 w w' vC' ((ws.take i).map (fun s => (idx W s : Int)) ++ [(idx W x : Int)]) ∧ (∀ b, vC'.ownBlock = some b → b ≠ br) ∧ w'.heap[b2]? = some (.cells #[.slice A1 T.length c1, .slice A2 W.length c2, .slice A3 (rN.map fun r => r.map qtxt).length c3, .slice A4 (rE.map fun r => r.map qtxt).length c4] 36 (0, 0))) ?_ ?_
    · have hS : w4.drew.heap[b2]? = _ := hb2
      have hbr : w4.drew.heap[br]? = _ := hbr
      have hFC := hFC.up (Chg.drew No w4)
      have hWw := hW.ext hFC.ext
      have hS0 := hS
      have hbr0 := hbr
      have hnb2 : ∀ b, vC.ownBlock = some b → b ≠ b2 := fun b hb e => by
        obtain ⟨cur, hcur⟩ : ∃ cur, w4.drew.heap[b]? = some (.cells cur 3 (0, 0)) := by
          obtain ⟨Ax, cx, rfl, _, _⟩ := hFC.shape
          rcases (kInt_flat .i64).out hFC with ⟨rfl, _⟩ | ⟨g, cur, rfl, _, _, hh, _⟩
          · cases hb
          · cases hb; exact ⟨cur, hh⟩
        rw [e, hS] at hcur; cases hcur
      refine draw_held tok mixed (fun w' => w'.heap[b2]? = some (.cells #[.slice A1 T.length c1, .slice A2 W.length c2, .slice A3 (rN.map fun r => r.map qtxt).length c3, .slice A4 (rE.map fun r => r.map qtxt).length c4] 36 (0, 0)))
        (ones [0, 1, 2, 3, 5, 6, 7] (.alt 4 (.alt 8 (.alt 9 (.alt 10 (ones [11, 12] (.alt 13 .done .nil)) .nil) .nil) .nil) (.alt 8 (.alt 4 (.alt 9 (.alt 10 (ones [11, 12] (.alt 13 .done .nil)) .nil) .nil) (.alt 9 (.alt 4 (.alt 10 (ones [11, 12] (.alt 13 .done .nil)) .nil) .nil) .nil)) .nil))) (by decide +kernel) (by decide +kernel) hS ?_
      (conv => whnf)
      refine ⟨_, fun w' h => (by rw [addr_add, cell_of_blk h]; rfl), ?_⟩
      (conv => whnf)
      refine ⟨?_, ?_, trivial⟩
      · refine ⟨_, by rw [addr_add, cell_of_blk hbr]; rfl, ?_⟩
        (conv => whnf)
        refine ⟨hS, ?_⟩
        (conv => whnf)
        refine ⟨?_, trivial⟩
        refine (index_ _ A2 _ c2 W x _ hWw hWl).call ?_
        rintro _ w6 ⟨rfl, rfl⟩
        (conv => whnf)
        refine ⟨hS, ?_⟩
        (conv => whnf)
        refine ⟨?_, trivial⟩
        intro bA wA hwA
        have hbr := (hwA.chg No).blk hbr (fun h => h)
        have hS := (hwA.chg No).blk hS (fun h => h)
        refine ⟨hS, ?_⟩
        (conv => whnf)
        refine ⟨?_, trivial⟩
        refine (kInt_flat .i64).app (x := (idx W x : Int)) tok rfl rfl rfl rfl rfl hwA hFC rfl (by simp; omega) (by simp; omega) (fun vC' wB hFC' hCB hoB => ?_)
        have hbrB := hCB.blk hbr0 (fun e => hnbr _ e rfl)
        have hSB := hCB.blk hS0 (fun e => hnb2 _ e rfl)
        refine ⟨hSB, ?_⟩
        (conv => whnf)
        refine ⟨?_, trivial⟩
        obtain ⟨AC, cC, rfl, _, _⟩ := hFC'.shape
        refine ⟨rfl, trivial, ⟨_, by rw [addr_add, cell_of_blk hbrB]; rfl, by rw [addr_add]; exact frozen_of_blk hbrB _⟩, fun wD hwD => ?_⟩
        have hbrD := hwD.blk' hbrB
        have hCD := hwD.chgB
        refine ⟨hCD.blk hSB (fun e => hne e), ?_⟩
        (conv => whnf)
        refine ⟨rfl, _, rfl, hbrD, ?_, ?_, hCD.blk hSB (fun e => hne e)⟩
        · exact (kInt_flat .i64).stay hFC' hCD (fun b hb => by omega) (fun b hb e => by
            rcases hoB b hb with h | h
            · exact hnbr b h e
            · have := (Array.getElem?_eq_some_iff.1 hbr0).1; omega)
        · intro b hb e
          rcases hoB b hb with h | h
          · exact hnbr b h e
          · have := (Array.getElem?_eq_some_iff.1 hbr0).1; omega
      · refine (index_ _ A2 _ c2 W x _ hWw hWl).call ?_
        rintro _ w6 ⟨rfl, rfl⟩
        (conv => whnf)
        refine ⟨hS, ?_⟩
        (conv => whnf)
        refine ⟨?_, ?_, trivial⟩
        · refine ⟨_, by rw [addr_add, cell_of_blk hbr]; rfl, ?_⟩
          (conv => whnf)
          refine ⟨hS, ?_⟩
          (conv => whnf)
          refine ⟨?_, trivial⟩
          intro bA wA hwA
          have hbr := (hwA.chg No).blk hbr (fun h => h)
          have hS := (hwA.chg No).blk hS (fun h => h)
          refine ⟨hS, ?_⟩
          (conv => whnf)
          refine ⟨?_, trivial⟩
          refine (kInt_flat .i64).app (x := (idx W x : Int)) tok rfl rfl rfl rfl rfl hwA hFC rfl (by simp; omega) (by simp; omega) (fun vC' wB hFC' hCB hoB => ?_)
          have hbrB := hCB.blk hbr0 (fun e => hnbr _ e rfl)
          have hSB := hCB.blk hS0 (fun e => hnb2 _ e rfl)
          refine ⟨hSB, ?_⟩
          (conv => whnf)
          refine ⟨?_, trivial⟩
          obtain ⟨AC, cC, rfl, _, _⟩ := hFC'.shape
          refine ⟨rfl, trivial, ⟨_, by rw [addr_add, cell_of_blk hbrB]; rfl, by rw [addr_add]; exact frozen_of_blk hbrB _⟩, fun wD hwD => ?_⟩
          have hbrD := hwD.blk' hbrB
          have hCD := hwD.chgB
          refine ⟨hCD.blk hSB (fun e => hne e), ?_⟩
          (conv => whnf)
          refine ⟨rfl, _, rfl, hbrD, ?_, ?_, hCD.blk hSB (fun e => hne e)⟩
          · exact (kInt_flat .i64).stay hFC' hCD (fun b hb => by omega) (fun b hb e => by
              rcases hoB b hb with h | h
              · exact hnbr b h e
              · have := (Array.getElem?_eq_some_iff.1 hbr0).1; omega)
          · intro b hb e
            rcases hoB b hb with h | h
            · exact hnbr b h e
            · have := (Array.getElem?_eq_some_iff.1 hbr0).1; omega
        · intro bA wA hwA
          have hbr := (hwA.chg No).blk hbr (fun h => h)
          have hS := (hwA.chg No).blk hS (fun h => h)
          refine ⟨hS, ?_⟩
          (conv => whnf)
          refine ⟨?_, trivial⟩
          refine ⟨_, by rw [addr_add, cell_of_blk hbr]; rfl, ?_⟩
          (conv => whnf)
          refine ⟨hS, ?_⟩
          (conv => whnf)
          refine ⟨?_, trivial⟩
          refine (kInt_flat .i64).app (x := (idx W x : Int)) tok rfl rfl rfl rfl rfl hwA hFC rfl (by simp; omega) (by simp; omega) (fun vC' wB hFC' hCB hoB => ?_)
          have hbrB := hCB.blk hbr0 (fun e => hnbr _ e rfl)
          have hSB := hCB.blk hS0 (fun e => hnb2 _ e rfl)
          refine ⟨hSB, ?_⟩
          (conv => whnf)
          refine ⟨?_, trivial⟩
          obtain ⟨AC, cC, rfl, _, _⟩ := hFC'.shape
          refine ⟨rfl, trivial, ⟨_, by rw [addr_add, cell_of_blk hbrB]; rfl, by rw [addr_add]; exact frozen_of_blk hbrB _⟩, fun wD hwD => ?_⟩
          have hbrD := hwD.blk' hbrB
          have hCD := hwD.chgB
          refine ⟨hCD.blk hSB (fun e => hne e), ?_⟩
          (conv => whnf)
          refine ⟨rfl, _, rfl, hbrD, ?_, ?_, hCD.blk hSB (fun e => hne e)⟩
          · exact (kInt_flat .i64).stay hFC' hCD (fun b hb => by omega) (fun b hb e => by
              rcases hoB b hb with h | h
              · exact hnbr b h e
              · have := (Array.getElem?_eq_some_iff.1 hbr0).1; omega)
          · intro b hb e
            rcases hoB b hb with h | h
            · exact hnbr b h e
            · have := (Array.getElem?_eq_some_iff.1 hbr0).1; omega
    rintro _ w5 ⟨vC', rfl, hbr5, hFC5, hnbr5, hb25⟩
    (repeat ((conv => whnf); first | refine numP_i64 (by omega) ?_ | refine numP_u64 (by omega) ?_ | refine numP_u8 (by omega) ?_ | refine Exists.intro _ (And.intro ‹_› ?_) | refine Exists.intro _ (And.intro rfl ?_) | refine And.intro (by omega) (Exists.intro _ (And.intro rfl ?_)) | refine And.intro (by omega) ?_)); (conv => whnf)
    refine ⟨⟨rfl, rfl⟩, ⟨i + 1, vC', rfl, by omega, hb25, hbr5, ?_, hnbr5⟩, by simp; omega⟩
    rw [htk]; exact hFC5
  · obtain rfl : i = ws.length := by omega
    rw [List.take_length] at hFC
    (conv => whnf)
    exact ⟨hFC.ext, .inr ⟨hgood, br, vC, rfl, hbr, hFC⟩⟩
end Go.Proofs.YtfeegacmmfgjfaaGreatDoorX

/-!  Package tagger: maps from tags to lists of tags. -/
set_option linter.unusedVariables false
set_option maxRecDepth 10000
namespace Go.Proofs.YtfeegacmmfgjfaaGreatDoorX
open Go Go.RowKit Go.Proofs Go.Proofs.YtfeegacmmfgjfaaGreatDoorM
/-- The world with nothing in its memory. -/
def Zw (w : World) : World := { w with heap := #[] }
theorem Zw.ext (w : World) : Ext (Zw w) w := ⟨rfl, rfl, rfl, Nat.zero_le _, fun b hb => absurd hb (Nat.not_lt_zero b)⟩
/-- A list of tags with its probability, as a value. -/
def RW (w : World) (v : Value) (x : V) : Prop := ∃ sl, v = .agg #[.string (str (qtxt x.1)), sl] ∧ Fresh (kInt .i64) 3 (Zw w) w sl x.2
theorem RW.of {w0 w : World} {sl : Value} {x : V} (h : Fresh (kInt .i64) 3 w0 w sl x.2) : RW w (.agg #[.string (str (qtxt x.1)), sl]) x := by
  refine ⟨sl, rfl, ?_⟩
  obtain ⟨A, c, rfl, h1, h2⟩ := h.shape
  rcases (kInt_flat .i64).out h with ⟨rfl, _, rfl, hx⟩ | ⟨g, cur, rfl, _, hg, hh, hnc, hcm, hsz, htk⟩
  · rw [hx]; exact .nil _ _ (Zw.ext w)
  · exact (kInt_flat .i64).in_ (Zw.ext w) (Nat.zero_le _) hh hnc hcm hsz htk
theorem RW.nil (w : World) (q : Rat) : RW w (.agg #[.string (str (qtxt q)), .slice none 0 0]) (q, []) := RW.of (x := (q, [])) (.nil _ _ (Zw.ext w))
theorem RW.stay {w w' : World} {v : Value} {x : V} {M : Nat → Prop} (h : RW w v x) (hc : Chg M w w') (hM : ∀ b cur, w.heap[b]? = some (.cells cur 3 (0, 0)) → ¬ M b) : RW w' v x := by
  obtain ⟨sl, rfl, h⟩ := h
  refine ⟨sl, rfl, ?_⟩
  obtain ⟨A, c, rfl, h1, h2⟩ := h.shape
  rcases (kInt_flat .i64).out h with ⟨rfl, _, rfl, hx⟩ | ⟨g, cur, rfl, _, hg, hh, hnc, hcm, hsz, htk⟩
  · rw [hx]; exact .nil _ _ (Zw.ext w')
  · exact (kInt_flat .i64).in_ (Zw.ext w') (Nat.zero_le _) (hc.blk hh (hM g cur hh)) hnc hcm hsz htk
theorem RW.ext {w w' : World} {v : Value} {x : V} (h : RW w v x) (hc : Ext w w') : RW w' v x := h.stay hc fun _ _ _ h => h
/-- What a block holds that is no row of ints. -/
theorem not3 {w : World} {b : Nat} {o : Obj} (h : w.heap[b]? = some o) (ho : ∀ cur, o ≠ .cells cur 3 (0, 0)) : ∀ (i : Nat) cur, w.heap[i]? = some (.cells cur 3 (0, 0)) → ¬ i = b := fun i cur hi e => by
  rw [e, h] at hi
  exact ho cur (Option.some.inj hi)
def R2 (w : World) : List (Int × Value) → List (Nat × V) → Prop
  | [], [] => True
  | (k, v) :: es, (i, x) :: bl => k = (i : Int) ∧ RW w v x ∧ R2 w es bl
  | _, _ => False
def getB : List (Nat × V) → Nat → Option V
  | [], _ => none
  | (a, x) :: r, i => if i = a then some x else getB r i
theorem R2.get {w : World} : ∀ {es : List (Int × Value)} {bl : List (Nat × V)}, R2 w es bl → ∀ i : Nat, (aget es (i : Int) = none ∧ getB bl i = none) ∨ ∃ v x, aget es (i : Int) = some v ∧ getB bl i = some x ∧ RW w v x
  | [], [], _, i => .inl ⟨rfl, rfl⟩
  | [], _ :: _, h, _ => h.elim
  | _ :: _, [], h, _ => h.elim
  | (k, v) :: es, (a, x) :: bl, ⟨hk, hv, h⟩, i => by
    subst hk
    by_cases hi : i = a
    · subst hi; exact .inr ⟨v, x, by simp [aget], by simp [getB], hv⟩
    · have hi' : ¬ (i : Int) = (a : Int) := by omega
      simp only [aget, getB, hi, hi', if_false]
      exact R2.get h i
theorem R2.stay {w w' : World} {M : Nat → Prop} (hc : Chg M w w') (hM : ∀ b cur, w.heap[b]? = some (.cells cur 3 (0, 0)) → ¬ M b) : ∀ {es : List (Int × Value)} {bl : List (Nat × V)}, R2 w es bl → R2 w' es bl
  | [], [], _ => trivial
  | [], _ :: _, h => h.elim
  | _ :: _, [], h => h.elim
  | (k, v) :: es, (a, x) :: bl, ⟨hk, hv, h⟩ => ⟨hk, hv.stay hc hM, R2.stay hc hM h⟩
theorem R2.ext {w w' : World} (hc : Ext w w') {es : List (Int × Value)} {bl : List (Nat × V)} (h : R2 w es bl) : R2 w' es bl := R2.stay hc (fun _ _ _ h => h) h
theorem R2.snoc {w : World} : ∀ {es : List (Int × Value)} {bl : List (Nat × V)}, R2 w es bl → ∀ {j : Nat} {v : Value} {x : V}, getB bl j = none → RW w v x → R2 w (aset es (j : Int) v) (bl ++ [(j, x)])
  | [], [], _, j, v, x, _, hv => ⟨rfl, hv, trivial⟩
  | [], _ :: _, h, _, _, _, _, _ => h.elim
  | _ :: _, [], h, _, _, _, _, _ => h.elim
  | (k, u) :: es, (a, y) :: bl, ⟨hk, hu, h⟩, j, v, x, hg, hv => by
    subst hk
    simp only [getB] at hg
    split at hg
    · cases hg
    · rename_i hne
      have hi' : ¬ (j : Int) = (a : Int) := by omega
      simp only [aset, hi', if_false]
      exact ⟨rfl, hu, R2.snoc h hg hv⟩
/-- A map from tags to lists of tags. -/
def MB (w : World) (b : Nat) (bl : List (Nat × V)) : Prop := ∃ es, w.heap[b]? = some (mapO eI64 es) ∧ R2 w es bl
theorem MB.stay {w w' : World} {b : Nat} {bl : List (Nat × V)} {M : Nat → Prop} (h : MB w b bl) (hc : Chg M w w') (hb : ¬ M b) (hM : ∀ b cur, w.heap[b]? = some (.cells cur 3 (0, 0)) → ¬ M b) : MB w' b bl := by
  obtain ⟨es, h1, h2⟩ := h
  exact ⟨es, hc.blk h1 hb, R2.stay hc hM h2⟩
theorem MB.ext {w w' : World} {b : Nat} {bl : List (Nat × V)} (h : MB w b bl) (hc : Ext w w') : MB w' b bl := h.stay hc (fun h => h) fun _ _ _ h => h
/-! ## What forward computes -/
def pN (rN : List (List Rat)) (i j : Nat) : Rat := (rN.getD i []).getD j 0
def cellB (f : Nat → V → V) (bl : List (Nat × V)) (m : Nat) : V := (List.range m).foldl (fun v i => match getB bl i with
  | some u => betterV v (f i u)
  | none => v) (0, [])
def nextB (rN rE : List (List Rat)) (n : Nat) (bl : List (Nat × V)) (c : Nat) : List (Nat × V) := (List.range n).map fun j => (j, cellB (fun i u => stepV u j (pN rN i j * pN rE j c)) bl (n + 1))
def lastB (rN : List (List Rat)) (n : Nat) (bl : List (Nat × V)) : V := cellB (fun i u => stepV u (-1) (pN rN i n)) bl (n + 1)
def fwd (rN rE : List (List Rat)) (n : Nat) (cols : List Nat) : V := lastB rN n (cols.foldl (fun bl c => nextB rN rE n bl c) [(n, (1, []))])
theorem cellB_succ (f : Nat → V → V) (bl : List (Nat × V)) (m : Nat) : cellB f bl (m + 1) = (match getB bl m with
  | some u => betterV (cellB f bl m) (f m u)
  | none => cellB f bl m) := by
  unfold cellB
  rw [List.range_succ, List.foldl_append]; rfl
/-- Numbers of at most n digits, lists of at most l tags. -/
structure VD (n l : Nat) (x : V) : Prop where
  d : Dg n x.1
  l : x.2.length ≤ l
theorem VD.mono {n l n' l' : Nat} {x : V} (h : VD n l x) (hn : n ≤ n') (hl : l ≤ l') : VD n' l' x := ⟨h.d.mono hn, Nat.le_trans h.l hl⟩
theorem dg_zero {n : Nat} (h : 1 ≤ n) : Dg n 0 := (show Dg 1 0 from ⟨by decide +kernel, by decide +kernel⟩).mono h
theorem dg_one {n : Nat} (h : 1 ≤ n) : Dg n 1 := (show Dg 1 1 from ⟨by decide +kernel, by decide +kernel⟩).mono h
theorem VD.better {n l : Nat} {a b : V} (ha : VD n l a) (hb : VD n l b) : VD n l (betterV a b) := by
  unfold betterV; split; exact hb; exact ha
theorem VD.step {n l m : Nat} {x : V} {tag : Int} {p : Rat} (hx : VD n l x) (hp : Dg m p) (h1 : 1 ≤ n) : VD (n + m) (l + 1) (stepV x tag p) := by
  unfold stepV
  split
  · exact ⟨dg_zero (by omega), by simp⟩
  · refine ⟨hx.d.mul hp, ?_⟩
    have := hx.l
    show (if 0 ≤ tag then x.2 ++ [tag] else x.2).length ≤ l + 1
    split
    · simp; omega
    · omega
theorem VD.cell {n l : Nat} {f : Nat → V → V} {bl : List (Nat × V)} (h1 : 1 ≤ n) (hf : ∀ i u, getB bl i = some u → VD n l (f i u)) (m : Nat) : VD n l (cellB f bl m) := by
  induction m with
  | zero => exact ⟨dg_zero h1, Nat.zero_le _⟩
  | succ m ih =>
    rw [cellB_succ]
    split
    · rename_i u hu; exact ih.better (hf m u hu)
    · exact ih
theorem getB_next {n : Nat} {g : Nat → V} {i : Nat} {u : V} (h : getB ((List.range n).map fun j => (j, g j)) i = some u) : i < n ∧ u = g i := by
  have : ∀ l : List Nat, getB (l.map fun j => (j, g j)) i = some u → i ∈ l ∧ u = g i := by
    intro l
    induction l with
    | nil => intro h; cases h
    | cons a r ih =>
      intro h
      simp only [List.map_cons, getB] at h
      split at h
      · rename_i he; subst he; cases h; exact ⟨by simp, rfl⟩
      · obtain ⟨h1, h2⟩ := ih h; exact ⟨by simp [h1], h2⟩
  obtain ⟨h1, h2⟩ := this _ h
  exact ⟨List.mem_range.1 h1, h2⟩
theorem getB_next_none {n : Nat} {g : Nat → V} {i : Nat} (h : n ≤ i) : getB ((List.range n).map fun j => (j, g j)) i = none := by
  cases hg : getB ((List.range n).map fun j => (j, g j)) i with
  | none => rfl
  | some u => have := (getB_next hg).1; omega
theorem range_next {n : Nat} (g : Nat → V) : (List.range (n + 1)).map (fun j => (j, g j)) = (List.range n).map (fun j => (j, g j)) ++ [(n, g n)] := by
  rw [List.range_succ, List.map_append]; rfl
end Go.Proofs.YtfeegacmmfgjfaaGreatDoorX
