/- Parts of the proof: Package counts: names. Package nat: block by block. The library: strings.Builder, which writes its own address first (the shelf's lines, turned to this program: its copyChe No condition ahead of any statement but its own. -/
import Derived.Test.YtfeegacmmfgjfaaGreatDoorZ2
import Derived.Test.YtfeegacmmfgjfaaGreatDoorS1
import Derived.Shelf.Strings.Builder1
import Derived.Test.YtfeegacmmfgjfaaGreatDoorZ1
set_option maxHeartbeats 4000000
/-!  Package counts: names. -/
set_option linter.unusedVariables false
set_option maxRecDepth 10000
namespace Go.Proofs.YtfeegacmmfgjfaaGreatDoorX
open Go Go.RowKit Go.Proofs Go.Proofs.YtfeegacmmfgjfaaGreatDoorM
/-- A row of strings of one's own. -/
structure RowS (w0 w : World) (g c : Nat) (xs : List Str) : Prop where
  ext : Ext w0 w
  ge : w0.heap.size ≤ g
  le : xs.length ≤ c
  max : c ≤ maxLen
  blk : ∃ cur, w.heap[g]? = some (.cells cur 9 (0, 0)) ∧ cur.size = c ∧ cur.toList.take xs.length = xs.map encStr
theorem RowS.holds {w0 w : World} {g c : Nat} {xs : List Str} (h : RowS w0 w g c xs) : Sort.Holds encStr w g 0 xs.toArray := by
  obtain ⟨cur, hb, hs, ht⟩ := h.blk
  intro j hj
  have hj' : j < xs.length := by simpa using hj
  refine ⟨?_, frozen_of_blk hb _⟩
  have h1 : (cur.toList.take xs.length)[j]? = (xs.map encStr)[j]? := by rw [ht]
  rw [List.getElem?_take_of_lt hj'] at h1
  rw [Nat.zero_add, cell_of_blk hb, ← Array.getElem?_toList, h1]
  simp [hj']
theorem RowS.put {w0 w : World} {g c : Nat} {xs ys : List Str} (h : RowS w0 w g c xs) (hl : ys.length = xs.length) (q : Nat) (os : Array Obj) : RowS w0 (Sort.grow (Sort.putRow encStr (Sort.ahead w q) g 0 ys.toArray) os) g c ys := by
  obtain ⟨cur, hb, hs, ht⟩ := h.blk
  have hg : g < w.heap.size := (Array.getElem?_eq_some_iff.1 hb).1
  have hch : Chg (fun b => b = g) w (Sort.grow (Sort.putRow encStr (Sort.ahead w q) g 0 ys.toArray) os) := by
    refine ⟨rfl, rfl, rfl, by simp [Sort.grow, Sort.putRow, Sort.mapBlock, Sort.ahead], fun k hk hne => ?_⟩
    rw [Sort.heap_grow_old _ _ (by simpa [Sort.putRow, Sort.mapBlock, Sort.ahead] using hk)]
    have : g ≠ k := fun e => hne e.symm
    simp [Sort.putRow, Sort.mapBlock, Sort.ahead, Array.getElem?_modify, this]
  have hge := h.ge
  have hle := h.le
  refine ⟨h.ext.then hch fun i hi hm => by omega, h.ge, by omega, h.max, Sort.putCells encStr 0 ys.toArray cur, ?_, by simp [Sort.putCells, hs], ?_⟩
  · rw [Sort.heap_grow_old _ _ (by simpa [Sort.putRow, Sort.mapBlock, Sort.ahead] using hg)]
    simp [Sort.putRow, Sort.mapBlock, Sort.ahead, Array.getElem?_modify, hb, Sort.onCells]
  · apply List.ext_getElem?
    intro j
    by_cases hj : j < ys.length
    · rw [List.getElem?_take_of_lt hj, Array.getElem?_toList]
      simp [Sort.putCells, hj, show j < cur.size by omega]
    · rw [List.getElem?_take_eq_none (by omega), List.getElem?_eq_none (by simp; omega)]
theorem RowS.cut {w0 w : World} {g c : Nat} {xs ys : List Str} (h : RowS w0 w g c (xs ++ ys)) : RowS w0 w g c xs := by
  obtain ⟨cur, hb, hs, ht⟩ := h.blk
  have hle := h.le
  rw [List.length_append] at hle
  refine ⟨h.ext, h.ge, by omega, h.max, cur, hb, hs, ?_⟩
  have h1 := congrArg (List.take xs.length) ht
  rw [List.take_take, List.length_append, Nat.min_eq_left (Nat.le_add_right _ _), List.map_append] at h1
  rw [h1]
  exact List.take_left' (by simp)
theorem RowS.fresh {w0 w : World} {g c : Nat} {xs : List Str} (h : RowS w0 w g c xs) : Fresh kStr 9 w0 w (.slice (some ⟨g, 0, none⟩) xs.length c) xs := by
  obtain ⟨cur, hb, hs, ht⟩ := h.blk
  refine kStr_flat.in_ h.ext h.ge hb h.le h.max (by rw [hs]; exact (Nat.mul_one _).symm) ?_
  rw [show kStr.nc = 1 from rfl, Nat.mul_one, ht]
  exact (flat_one (fun l => .string (str l)) xs).symm
theorem RowS.grow {w0 w : World} {g c : Nat} {xs : List Str} (h : RowS w0 w g c xs) (q : Nat) : RowS w0 (w.drewN q) g c xs := by
  obtain ⟨cur, hb, hs, ht⟩ := h.blk
  exact ⟨⟨h.ext.os, h.ext.tape, h.ext.output, h.ext.size, h.ext.block⟩, h.ge, h.le, h.max, cur, hb, hs, ht⟩
theorem isEmpty1 (s : Str) (w : World) : Ret Tryz.prog 45 #[.string (str s)] w fun v w' => v = .bool (decide (s = [])) ∧ w' = w := by
  refine fn_ret tok Tryz.func45 (by kernel_rfl) rfl rfl ?_
  (conv => whnf)
  refine ⟨?_, rfl⟩
  exact congrArg Value.bool (strEq_str s [])
theorem row_fresh {α : Type} {k : Kd α} {enc : α → Value} {e : TypeId} (h1 : One k enc) {w0 w : World} {v : Value} {xs : List α} (hE : Ext w0 w) (h : w.ownsRow w0.heap.size e 1 v xs.length (xs.map enc)) : Fresh k e w0 w v xs := by
  obtain ⟨hl, hr⟩ := h
  rcases hr with ⟨rfl, hn⟩ | ⟨g, cap, cur, rfl, hg, hb, h2, h3, h4, h5⟩
  · rw [List.eq_nil_of_length_eq_zero hn]; exact .nil _ _ hE
  · have hF : Flat k (fun x => [enc x]) := ⟨h1.rep⟩
    refine hF.in_ hE hg hb h2 h3 (by rw [h4, h1.nc]) ?_
    rw [h1.nc, h5]
    exact (flat_one enc xs).symm
theorem cloneS {w0 w : World} {v : Value} {xs : List Str} (h : Held kStr 9 w0 w v xs) (hl : xs.length ≤ 1000000) : Ret Tryz.prog 23 #[v] w fun r w' => Fresh kStr 9 w w' r xs := by
  obtain ⟨wz, h⟩ := h.now
  obtain ⟨A, c, rfl, h1, h2⟩ := h.shape
  refine Ret.of Tryz.func23 (by kernel_rfl) (by kernel_rfl) ?_
  rcases kStr_flat.out h with ⟨rfl, _, rfl, rfl⟩ | ⟨g, cur, rfl, _, hg, hh, h1, h2, hs, ht⟩
  · refine (Tryz.slices_Clone_string_nil 0 0 w).mono ?_
    rintro e w' ⟨rfl, rfl⟩
    exact ⟨_, rfl, .nil _ _ (.refl _ _)⟩
  · refine (Tryz.slices_Clone_string g 0 xs.length c (xs.map str) w (by simp) (by omega) (fun j hj => ?_)).mono ?_
    · have hj' : j < xs.length := by simpa using hj
      have := (Fresh.cell kStr_one h hj' []).1
      rw [Nat.zero_add, this]
      simp [hj']
    · rintro e w' ⟨r, rfl, hr, _, hB⟩
      refine ⟨r, rfl, row_fresh kStr_one (Ext.of_below hB) ?_⟩
      rw [List.take_of_length_le (by simp), List.map_map] at hr
      exact hr
theorem cloneI {w0 w : World} {v : Value} {xs : List Int} (h : Held (kInt .i64) 3 w0 w v xs) (hl : xs.length ≤ 1000000) : Ret Tryz.prog 32 #[v] w fun r w' => Fresh (kInt .i64) 3 w w' r xs := by
  obtain ⟨wz, h⟩ := h.now
  obtain ⟨A, c, rfl, h1, h2⟩ := h.shape
  refine Ret.of Tryz.func32 (by kernel_rfl) (by kernel_rfl) ?_
  rcases (kInt_flat .i64).out h with ⟨rfl, _, rfl, rfl⟩ | ⟨g, cur, rfl, _, hg, hh, h1, h2, hs, ht⟩
  · refine (Tryz.slices_Clone_int_nil 0 0 w).mono ?_
    rintro e w' ⟨rfl, rfl⟩
    exact ⟨_, rfl, .nil _ _ (.refl _ _)⟩
  · refine (Tryz.slices_Clone_int g 0 xs.length c xs w (Nat.le_refl _) (by omega) (fun j hj => ?_)).mono ?_
    · have := (Fresh.cell (kInt_one .i64) h hj 0).1
      rw [Nat.zero_add, this]
    · rintro e w' ⟨r, rfl, hr, _, hB⟩
      refine ⟨r, rfl, row_fresh (kInt_one .i64) (Ext.of_below hB) ?_⟩
      rw [List.take_of_length_le (Nat.le_refl _)] at hr
      exact hr
theorem indexF0 (A : Option Addr) (c g : Nat) (w : World) : Ret Tryz.prog 84 #[.slice A 0 c, .func (.func g) #[] #[]] w fun v w' => v = .int .i64 (-1) ∧ w' = w := by
  refine fn_ret tok Tryz.func84 (by kernel_rfl) rfl rfl ?_
  (conv => whnf)
  refine loop_rule tok [8] [7] (fun vs w' => vs = [.int .i64 0] ∧ w' = w) (fun vs w => 0) ?_
  (conv => whnf)
  refine ⟨⟨rfl, rfl⟩, ?_⟩
  rintro _ w ⟨rfl, rfl⟩
  (conv => whnf)
  refine condP_no (by omega) ?_
  (conv => whnf)
  exact ⟨rfl, rfl⟩
theorem delF0 (A : Option Addr) (c g : Nat) (w : World) : Ret Tryz.prog 44 #[.slice A 0 c, .func (.func g) #[] #[]] w fun v w' => v = .slice A 0 c ∧ w' = w := by
  refine fn_ret tok Tryz.func44 (by kernel_rfl) rfl rfl ?_
  (conv => whnf)
  refine (indexF0 A c g w).call ?_
  rintro _ w ⟨rfl, rfl⟩
  (conv => whnf)
  refine condP_yes rfl ?_
  (conv => whnf)
  exact ⟨rfl, rfl⟩
def nms (xs : List Str) : List Str := Lib.compact ((xs.filter fun x => !decide (x = [])).mergeSort fun x y => decide (x ≤ y))
theorem names {w0 w : World} {v : Value} {xs : List Str} (h : Held kStr 9 w0 w v xs) (hl : xs.length ≤ 1000000) : Ret Tryz.prog 21 #[v] w fun r w' => Fresh kStr 9 w w' r (nms xs) := by
  refine fn_ret tok Tryz.func21 (by kernel_rfl) rfl rfl ?_
  (conv => whnf)
  refine (cloneS h hl).call ?_
  intro r w1 hF
  (conv => whnf)
  have sort0 : ∀ (A : Option Addr) (c : Nat) (w : World), Ret Tryz.prog 46 #[.slice A 0 c] w fun v w' => v = .tuple #[] ∧ w' = w := fun A c w =>
    Ret.of Tryz.func46 (by kernel_rfl) (by kernel_rfl) ((Tryz.slices_Sort_string_none A c w).mono fun e w' h => ⟨_, h.1, rfl, h.2⟩)
  have comp0 : ∀ (A : Option Addr) (c : Nat) (w : World), Ret Tryz.prog 47 #[.slice A 0 c] w fun v w' => v = .slice A 0 c ∧ w' = w := fun A c w =>
    Ret.of Tryz.func47 (by kernel_rfl) (by kernel_rfl) ((Tryz.slices_Compact_string_empty A c w).mono fun e w' h => ⟨_, h.1, rfl, h.2⟩)
  obtain ⟨A, c, rfl, hc1, hc2⟩ := hF.shape
  rcases kStr_flat.out hF with ⟨rfl, _, rfl, rfl⟩ | ⟨g, cur, rfl, _, hg, hh, h1, h2, hs, ht⟩
  · refine (delF0 none 0 45 w1).call ?_
    rintro _ w1 ⟨rfl, rfl⟩
    (conv => whnf)
    refine (sort0 none 0 w1).call ?_
    rintro _ w1 ⟨rfl, rfl⟩
    (conv => whnf)
    refine (comp0 none 0 w1).call ?_
    rintro _ w1 ⟨rfl, rfl⟩
    (conv => whnf)
    have h0 : nms [] = [] := by simp [nms, Lib.compact, Lib.compactUpTo]
    rw [h0]
    exact .nil _ _ hF.ext
  · have hR : RowS w w1 g c xs := ⟨hF.ext, hg, h1, h2, cur, hh, by rw [hs]; exact Nat.mul_one _, by
      rw [show kStr.nc = 1 from rfl, Nat.mul_one] at ht
      rw [ht]; exact flat_one (fun l => .string (str l)) xs⟩
    have eg : ∀ args w, (callFunc 45 args).run Tryz.prog w = .ok (.enter 45 args) w := enters_of Tryz.func45 (by kernel_rfl) rfl
    have hgv : ∀ (W : World) (x : Str), FnGives Tryz.prog 45 #[] #[encStr x] (.bool (decide (x = []))) W := fun W x => by
      refine (isEmpty1 x W).calls.mono ?_
      rintro e w' ⟨v, rfl, rfl, rfl⟩
      exact ⟨rfl, 0, rfl⟩
    have hcon := AnyE.slices_DeleteFunc Tryz.delF encStr (fun _ => rfl) (fun x => decide (x = [])) 45 #[] eg [] (fun w => ti9.run_zero w) g 0 c xs.toArray w1 (fun W x _ => hgv W x) (fun n os dk x _ => hgv _ x) hR.holds (by simp; omega) (by simpa using h1)
    have hdel : Ret Tryz.prog 44 #[.slice (some ⟨g, 0, none⟩) xs.length c, .func (.func 45) #[] #[]] w1 fun v w' => v = .slice (some ⟨g, 0, none⟩) (xs.filter fun x => !decide (x = [])).length c ∧ RowS w w' g c (xs.filter fun x => !decide (x = [])) := by
      refine Ret.of Tryz.func44 (by kernel_rfl) (by kernel_rfl) (hcon.mono ?_)
      rintro e w' ⟨rfl, q, rfl⟩
      refine ⟨_, rfl, rfl, ?_⟩
      have := hR.put (ys := (xs.filter fun x => !decide (x = [])) ++ List.replicate (xs.length - (xs.filter fun x => !decide (x = [])).length) []) (by
        rw [List.length_append, List.length_replicate]
        exact Nat.add_sub_of_le (List.length_filter_le _ _)) q #[]
      rw [Sort.grow_empty] at this
      exact this.cut
    clear hcon
    refine hdel.call ?_
    clear hdel hgv eg
    unfold nms
    generalize hzs : (xs.filter fun x => !decide (x = [])) = zs
    have hzl : zs.length ≤ xs.length := by rw [← hzs]; exact List.length_filter_le _ _
    clear hzs
    rintro _ w2 ⟨rfl, hR2⟩
    (conv => whnf)
    have hsort : Ret Tryz.prog 46 #[.slice (some ⟨g, 0, none⟩) zs.length c] w2 fun v w' => v = .tuple #[] ∧ RowS w w' g c (zs.mergeSort fun x y => decide (x ≤ y)) := by
      have hle := hR2.le
      obtain ⟨cur2, hb2, _⟩ := hR2.blk
      refine Ret.of Tryz.func46 (by kernel_rfl) (by kernel_rfl) ((Tryz.slices_Sort_string g 0 c zs w2 hR2.holds (Array.getElem?_eq_some_iff.1 hb2).1 (by omega)).mono ?_)
      rintro e w' ⟨rfl, q, os, rfl⟩
      exact ⟨_, rfl, rfl, hR2.put (by simp) q os⟩
    refine hsort.call ?_
    clear hsort
    have hlz : zs.length = (zs.mergeSort fun x y => decide (x ≤ y)).length := by simp
    rw [hlz]
    generalize (zs.mergeSort fun x y => decide (x ≤ y)) = ys
    rintro _ w3 ⟨rfl, hR3⟩
    (conv => whnf)
    have hcomp : Ret Tryz.prog 47 #[.slice (some ⟨g, 0, none⟩) ys.length c] w3 fun v w' => v = .slice (some ⟨g, 0, none⟩) (Lib.compact ys).length c ∧ RowS w w' g c (Lib.compact ys) := by
      have hle := hR3.le
      have hmax := hR3.max
      refine Ret.of Tryz.func47 (by kernel_rfl) (by kernel_rfl) ((Tryz.slices_Compact_string g 0 c ys w3 hR3.holds (by unfold maxLen at hmax; omega) hle).mono ?_)
      rintro e w' ⟨rfl, q, rfl⟩
      refine ⟨_, rfl, rfl, ?_⟩
      have := hR3.put (ys := Lib.compact ys ++ List.replicate (ys.length - (Lib.compact ys).length) []) (by
        rw [List.length_append, List.length_replicate]
        have : (Lib.compact ys).length ≤ ys.length := by
          unfold Lib.compact Lib.compactUpTo
          rw [List.length_map]
          exact Nat.le_trans (List.length_filter_le _ _) (by simp)
        omega) q #[]
      rw [Sort.grow_empty] at this
      exact this.cut
    refine hcomp.call ?_
    rintro _ w4 ⟨rfl, hR4⟩
    (conv => whnf)
    exact hR4.fresh
end Go.Proofs.YtfeegacmmfgjfaaGreatDoorX

/-!  Package nat: block by block. -/
set_option linter.unusedVariables false
set_option maxRecDepth 10000
namespace Go.Proofs.YtfeegacmmfgjfaaGreatDoorX
open Go Go.RowKit Go.Proofs Go.Proofs.YtfeegacmmfgjfaaGreatDoorM

theorem plus1 (a b c : Nat) (w : World) (ha : a < 1000000000) (hb : b < 1000000000) (hc : c ≤ 1) : Ret Tryz.prog 151 #[.int .u64 a, .int .u64 b, .int .u64 c] w fun v w' => v = .tuple #[.int .u64 ((gPlus a b c).1 : Nat), .int .u64 ((gPlus a b c).2 : Nat)] ∧ w' = w := by
  refine fn_ret tok Tryz.func151 (by kernel_rfl) rfl rfl ?_
  (repeat ((conv => whnf); first | refine numP_i64 (by omega) ?_ | refine numP_u64 (by omega) ?_ | refine numP_u8 (by omega) ?_ | refine Exists.intro _ (And.intro ‹_› ?_) | refine Exists.intro _ (And.intro rfl ?_) | refine And.intro (by omega) (Exists.intro _ (And.intro rfl ?_)) | refine And.intro (by omega) ?_)); (conv => whnf)
  rw [Int.tdiv_eq_ediv_of_nonneg (by omega)]
  (repeat ((conv => whnf); first | refine numP_i64 (by omega) ?_ | refine numP_u64 (by omega) ?_ | refine numP_u8 (by omega) ?_ | refine Exists.intro _ (And.intro ‹_› ?_) | refine Exists.intro _ (And.intro rfl ?_) | refine And.intro (by omega) (Exists.intro _ (And.intro rfl ?_)) | refine And.intro (by omega) ?_)); (conv => whnf)
  rw [Int.tmod_eq_emod_of_nonneg (by omega)]
  exact ⟨rfl, rfl⟩
theorem minus1 (a b c : Nat) (w : World) (ha : a < 1000000000) (hb : b < 1000000000) (hc : c ≤ 1) : Ret Tryz.prog 153 #[.int .u64 a, .int .u64 b, .int .u64 c] w fun v w' => v = .tuple #[.int .u64 ((gMinus a b c).1 : Nat), .int .u64 ((gMinus a b c).2 : Nat)] ∧ w' = w := by
  refine fn_ret tok Tryz.func153 (by kernel_rfl) rfl rfl ?_
  (repeat ((conv => whnf); first | refine numP_i64 (by omega) ?_ | refine numP_u64 (by omega) ?_ | refine numP_u8 (by omega) ?_ | refine Exists.intro _ (And.intro ‹_› ?_) | refine Exists.intro _ (And.intro rfl ?_) | refine And.intro (by omega) (Exists.intro _ (And.intro rfl ?_)) | refine And.intro (by omega) ?_)); (conv => whnf)
  rw [Int.tdiv_eq_ediv_of_nonneg (by omega)]
  (repeat ((conv => whnf); first | refine numP_i64 (by omega) ?_ | refine numP_u64 (by omega) ?_ | refine numP_u8 (by omega) ?_ | refine Exists.intro _ (And.intro ‹_› ?_) | refine Exists.intro _ (And.intro rfl ?_) | refine And.intro (by omega) (Exists.intro _ (And.intro rfl ?_)) | refine And.intro (by omega) ?_)); (conv => whnf)
  rw [Int.tmod_eq_emod_of_nonneg (by omega)]
  refine ⟨?_, rfl⟩
  unfold gMinus
  have h1 : ((a + 1000000000 - b - c : Nat) : Int) = (a : Int) + 1000000000 - b - c := by omega
  have h2 : (((a + 1000000000 - b - c) % 1000000000 : Nat) : Int) = ((a : Int) + 1000000000 - b - c) % 1000000000 := by omega
  have h3 : ((1 - (a + 1000000000 - b - c) / 1000000000 : Nat) : Int) = 1 - ((a : Int) + 1000000000 - b - c) / 1000000000 := by omega
  simp only [h2, h3]
theorem times1 (a b c k : Nat) (p : Nat) (w : World) (hk : k < 1000000000) (ha : a < 1000000000) (hc : c < 1000000000) (hp : w.cell? ⟨p, 0, none⟩ = some (.int .u64 k)) :
    Ret Tryz.prog 169 #[.int .u64 a, .int .u64 b, .int .u64 c, .pointer (some ⟨p, 0, none⟩)] w fun v w' => v = .tuple #[.int .u64 ((gTimes k a b c).1 : Nat), .int .u64 ((gTimes k a b c).2 : Nat)] ∧ w' = w := by
  have h1 : a * k ≤ 999999999 * 999999999 := Nat.mul_le_mul (by omega) (by omega)
  have h2 : (a : Int) * (k : Int) = ((a * k : Nat) : Int) := by rw [Int.natCast_mul]
  refine fn_ret tok Tryz.func169 (by kernel_rfl) rfl rfl ?_
  (repeat ((conv => whnf); first | refine numP_i64 (by omega) ?_ | refine numP_u64 (by omega) ?_ | refine numP_u8 (by omega) ?_ | refine Exists.intro _ (And.intro ‹_› ?_) | refine Exists.intro _ (And.intro rfl ?_) | refine And.intro (by omega) (Exists.intro _ (And.intro rfl ?_)) | refine And.intro (by omega) ?_)); (conv => whnf)
  rw [h2]
  (repeat ((conv => whnf); first | refine numP_i64 (by omega) ?_ | refine numP_u64 (by omega) ?_ | refine numP_u8 (by omega) ?_ | refine Exists.intro _ (And.intro ‹_› ?_) | refine Exists.intro _ (And.intro rfl ?_) | refine And.intro (by omega) (Exists.intro _ (And.intro rfl ?_)) | refine And.intro (by omega) ?_)); (conv => whnf)
  have h3 : ((a * k : Nat) : Int) + (c : Int) = ((a * k + c : Nat) : Int) := by omega
  rw [h3, Int.tdiv_eq_ediv_of_nonneg (by omega)]
  (repeat ((conv => whnf); first | refine numP_i64 (by omega) ?_ | refine numP_u64 (by omega) ?_ | refine numP_u8 (by omega) ?_ | refine Exists.intro _ (And.intro ‹_› ?_) | refine Exists.intro _ (And.intro rfl ?_) | refine And.intro (by omega) (Exists.intro _ (And.intro rfl ?_)) | refine And.intro (by omega) ?_)); (conv => whnf)
  rw [Int.tmod_eq_emod_of_nonneg (by omega)]
  exact ⟨rfl, rfl⟩

theorem nat_each (S S' : Nat → Prop) (A A' : Option Addr) (n n' c c' gid : Nat) (xs ys : List Nat) (w : World) (g : Nat → Nat → Nat → Nat × Nat) (good : Nat → Prop)
    (hx : SlR kU S w (.slice A n c) xs) (hy : SlR kU S' w (.slice A' n' c') ys) (hxs : ∀ x ∈ xs, x < 1000000000) (hys : ∀ x ∈ ys, x < 1000000000) (hl : xs.length ≤ 1000 ∧ ys.length ≤ 1000)
    (h0 : good 0) (hg : ∀ a b c, a < 1000000000 → b < 1000000000 → good c → (g a b c).1 < 1000000000 ∧ good (g a b c).2)
    (hst : ∀ (a b c : Nat) (w' : World), a < 1000000000 → b < 1000000000 → good c → Ext w w' → Ret Tryz.prog gid #[.int .u64 a, .int .u64 b, .int .u64 c] w' fun v w'' => v = .tuple #[.int .u64 ((g a b c).1 : Nat), .int .u64 ((g a b c).2 : Nat)] ∧ w'' = w') :
    Ret Tryz.prog 150 #[.slice A n c, .slice A' n' c', .func (.func gid) #[] #[]] w fun v w' => Fresh kU 124 w w' v (trimL (eachL g xs ys)) := by
  obtain ⟨rfl, hx1, hx2⟩ := hx.len
  obtain ⟨rfl, hy1, hy2⟩ := hy.len
  have hall := fun i => each_all (good := good) hxs hys h0 hg i
  refine fn_ret tok Tryz.func150 (by kernel_rfl) rfl rfl ?_
  (repeat ((conv => whnf); first | refine numP_i64 (by omega) ?_ | refine numP_u64 (by omega) ?_ | refine numP_u8 (by omega) ?_ | refine Exists.intro _ (And.intro ‹_› ?_) | refine Exists.intro _ (And.intro rfl ?_) | refine And.intro (by omega) (Exists.intro _ (And.intro rfl ?_)) | refine And.intro (by omega) ?_)); (conv => whnf)
  have hm : imax (xs.length : Int) (ys.length : Int) = ((max xs.length ys.length : Nat) : Int) := by unfold imax; split <;> omega
  rw [hm]
  (repeat ((conv => whnf); first | refine numP_i64 (by omega) ?_ | refine numP_u64 (by omega) ?_ | refine numP_u8 (by omega) ?_ | refine Exists.intro _ (And.intro ‹_› ?_) | refine Exists.intro _ (And.intro rfl ?_) | refine And.intro (by omega) (Exists.intro _ (And.intro rfl ?_)) | refine And.intro (by omega) ?_)); (conv => whnf)
  refine loop_rule tok [7, 8, 19] [0, 1, 2, 18] (fun vs w' => ∃ (i : Nat) (v : Value), vs = [v, .int .u64 ((eachS g xs ys i).2 : Nat), .int .i64 i] ∧ i ≤ max xs.length ys.length + 1 ∧ Fresh kU 124 w w' v (eachS g xs ys i).1) (fun vs w => match vs with | [_, _, .int _ i] => max xs.length ys.length + 1 - i.toNat | _ => 0) ?_
  (conv => whnf)
  refine ⟨?_, ?_⟩
  · (conv => whnf)
    exact ⟨0, _, rfl, by omega, Fresh.nil _ _ (Chg.refl _ _)⟩
  rintro _ w1 ⟨i, v, rfl, hi, hf⟩
  have hS := eachS_succ g xs ys i
  have hb := hall i
  have hstep := hst (xs.getD i 0) (ys.getD i 0) (eachS g xs ys i).2 w1 (getD_lt hxs i) (getD_lt hys i) hb.2 hf.ext
  have hgt : ∀ (zs : List Nat), ¬ (i : Int) < (zs.length : Int) → zs.getD i 0 = 0 := fun zs h => by rw [List.getD_eq_getElem?_getD, List.getElem?_eq_none (by omega)]; rfl
  have hln := eachS_len g xs ys i
  (conv => whnf)
  refine condP_dec (fun h1 => ?_) (fun h1 => ?_)
  · (repeat ((conv => whnf); first | refine numP_i64 (by omega) ?_ | refine numP_u64 (by omega) ?_ | refine numP_u8 (by omega) ?_ | refine Exists.intro _ (And.intro ‹_› ?_) | refine Exists.intro _ (And.intro rfl ?_) | refine And.intro (by omega) (Exists.intro _ (And.intro rfl ?_)) | refine And.intro (by omega) ?_)); (conv => whnf)
    refine condP_dec (fun h2 => ?_) (fun h2 => ?_)
    · obtain ⟨ad, rfl, hc1⟩ := (hx.ext hf.ext).u i (by omega) h2
      (repeat ((conv => whnf); first | refine numP_i64 (by omega) ?_ | refine numP_u64 (by omega) ?_ | refine numP_u8 (by omega) ?_ | refine Exists.intro _ (And.intro ‹_› ?_) | refine Exists.intro _ (And.intro rfl ?_) | refine And.intro (by omega) (Exists.intro _ (And.intro rfl ?_)) | refine And.intro (by omega) ?_)); (conv => whnf)
      refine condP_dec (fun h3 => ?_) (fun h3 => ?_)
      · obtain ⟨ad', rfl, hc2⟩ := (hy.ext hf.ext).u i (by omega) h3
        (repeat ((conv => whnf); first | refine numP_i64 (by omega) ?_ | refine numP_u64 (by omega) ?_ | refine numP_u8 (by omega) ?_ | refine Exists.intro _ (And.intro ‹_› ?_) | refine Exists.intro _ (And.intro rfl ?_) | refine And.intro (by omega) (Exists.intro _ (And.intro rfl ?_)) | refine And.intro (by omega) ?_)); (conv => whnf)
        refine hstep.call ?_
        rintro _ _ ⟨rfl, rfl⟩
        (repeat ((conv => whnf); first | refine numP_i64 (by omega) ?_ | refine numP_u64 (by omega) ?_ | refine numP_u8 (by omega) ?_ | refine Exists.intro _ (And.intro ‹_› ?_) | refine Exists.intro _ (And.intro rfl ?_) | refine And.intro (by omega) (Exists.intro _ (And.intro rfl ?_)) | refine And.intro (by omega) ?_)); (conv => whnf)
        intro b w2 hw
        (conv => whnf)
        refine fall_in (app_fresh tok rfl rfl rfl rfl rfl hw hf (x := _) rfl (by omega) (by omega) fun v' w3 hf3 hch => ?_)
        (repeat ((conv => whnf); first | refine numP_i64 (by omega) ?_ | refine numP_u64 (by omega) ?_ | refine numP_u8 (by omega) ?_ | refine Exists.intro _ (And.intro ‹_› ?_) | refine Exists.intro _ (And.intro rfl ?_) | refine And.intro (by omega) (Exists.intro _ (And.intro rfl ?_)) | refine And.intro (by omega) ?_)); (conv => whnf)
        refine ⟨⟨rfl, rfl⟩, ⟨i + 1, v', by rw [hS]; rfl, by omega, by rw [hS]; exact hf3⟩, by simp; omega⟩
      · rw [hgt ys h3] at hstep hS
        (repeat ((conv => whnf); first | refine numP_i64 (by omega) ?_ | refine numP_u64 (by omega) ?_ | refine numP_u8 (by omega) ?_ | refine Exists.intro _ (And.intro ‹_› ?_) | refine Exists.intro _ (And.intro rfl ?_) | refine And.intro (by omega) (Exists.intro _ (And.intro rfl ?_)) | refine And.intro (by omega) ?_)); (conv => whnf)
        refine hstep.call ?_
        rintro _ _ ⟨rfl, rfl⟩
        (repeat ((conv => whnf); first | refine numP_i64 (by omega) ?_ | refine numP_u64 (by omega) ?_ | refine numP_u8 (by omega) ?_ | refine Exists.intro _ (And.intro ‹_› ?_) | refine Exists.intro _ (And.intro rfl ?_) | refine And.intro (by omega) (Exists.intro _ (And.intro rfl ?_)) | refine And.intro (by omega) ?_)); (conv => whnf)
        intro b w2 hw
        (conv => whnf)
        refine fall_in (app_fresh tok rfl rfl rfl rfl rfl hw hf (x := _) rfl (by omega) (by omega) fun v' w3 hf3 hch => ?_)
        (repeat ((conv => whnf); first | refine numP_i64 (by omega) ?_ | refine numP_u64 (by omega) ?_ | refine numP_u8 (by omega) ?_ | refine Exists.intro _ (And.intro ‹_› ?_) | refine Exists.intro _ (And.intro rfl ?_) | refine And.intro (by omega) (Exists.intro _ (And.intro rfl ?_)) | refine And.intro (by omega) ?_)); (conv => whnf)
        refine ⟨⟨rfl, rfl⟩, ⟨i + 1, v', by rw [hS]; rfl, by omega, by rw [hS]; exact hf3⟩, by simp; omega⟩
    · rw [hgt xs h2] at hstep hS
      (repeat ((conv => whnf); first | refine numP_i64 (by omega) ?_ | refine numP_u64 (by omega) ?_ | refine numP_u8 (by omega) ?_ | refine Exists.intro _ (And.intro ‹_› ?_) | refine Exists.intro _ (And.intro rfl ?_) | refine And.intro (by omega) (Exists.intro _ (And.intro rfl ?_)) | refine And.intro (by omega) ?_)); (conv => whnf)
      refine condP_dec (fun h3 => ?_) (fun h3 => ?_)
      · obtain ⟨ad', rfl, hc2⟩ := (hy.ext hf.ext).u i (by omega) h3
        (repeat ((conv => whnf); first | refine numP_i64 (by omega) ?_ | refine numP_u64 (by omega) ?_ | refine numP_u8 (by omega) ?_ | refine Exists.intro _ (And.intro ‹_› ?_) | refine Exists.intro _ (And.intro rfl ?_) | refine And.intro (by omega) (Exists.intro _ (And.intro rfl ?_)) | refine And.intro (by omega) ?_)); (conv => whnf)
        refine hstep.call ?_
        rintro _ _ ⟨rfl, rfl⟩
        (repeat ((conv => whnf); first | refine numP_i64 (by omega) ?_ | refine numP_u64 (by omega) ?_ | refine numP_u8 (by omega) ?_ | refine Exists.intro _ (And.intro ‹_› ?_) | refine Exists.intro _ (And.intro rfl ?_) | refine And.intro (by omega) (Exists.intro _ (And.intro rfl ?_)) | refine And.intro (by omega) ?_)); (conv => whnf)
        intro b w2 hw
        (conv => whnf)
        refine fall_in (app_fresh tok rfl rfl rfl rfl rfl hw hf (x := _) rfl (by omega) (by omega) fun v' w3 hf3 hch => ?_)
        (repeat ((conv => whnf); first | refine numP_i64 (by omega) ?_ | refine numP_u64 (by omega) ?_ | refine numP_u8 (by omega) ?_ | refine Exists.intro _ (And.intro ‹_› ?_) | refine Exists.intro _ (And.intro rfl ?_) | refine And.intro (by omega) (Exists.intro _ (And.intro rfl ?_)) | refine And.intro (by omega) ?_)); (conv => whnf)
        refine ⟨⟨rfl, rfl⟩, ⟨i + 1, v', by rw [hS]; rfl, by omega, by rw [hS]; exact hf3⟩, by simp; omega⟩
      · rw [hgt ys h3] at hstep hS
        (repeat ((conv => whnf); first | refine numP_i64 (by omega) ?_ | refine numP_u64 (by omega) ?_ | refine numP_u8 (by omega) ?_ | refine Exists.intro _ (And.intro ‹_› ?_) | refine Exists.intro _ (And.intro rfl ?_) | refine And.intro (by omega) (Exists.intro _ (And.intro rfl ?_)) | refine And.intro (by omega) ?_)); (conv => whnf)
        refine hstep.call ?_
        rintro _ _ ⟨rfl, rfl⟩
        (repeat ((conv => whnf); first | refine numP_i64 (by omega) ?_ | refine numP_u64 (by omega) ?_ | refine numP_u8 (by omega) ?_ | refine Exists.intro _ (And.intro ‹_› ?_) | refine Exists.intro _ (And.intro rfl ?_) | refine And.intro (by omega) (Exists.intro _ (And.intro rfl ?_)) | refine And.intro (by omega) ?_)); (conv => whnf)
        intro b w2 hw
        (conv => whnf)
        refine fall_in (app_fresh tok rfl rfl rfl rfl rfl hw hf (x := _) rfl (by omega) (by omega) fun v' w3 hf3 hch => ?_)
        (repeat ((conv => whnf); first | refine numP_i64 (by omega) ?_ | refine numP_u64 (by omega) ?_ | refine numP_u8 (by omega) ?_ | refine Exists.intro _ (And.intro ‹_› ?_) | refine Exists.intro _ (And.intro rfl ?_) | refine And.intro (by omega) (Exists.intro _ (And.intro rfl ?_)) | refine And.intro (by omega) ?_)); (conv => whnf)
        refine ⟨⟨rfl, rfl⟩, ⟨i + 1, v', by rw [hS]; rfl, by omega, by rw [hS]; exact hf3⟩, by simp; omega⟩
  · obtain rfl : i = max xs.length ys.length + 1 := by omega
    obtain ⟨B, d, rfl, h2, h3⟩ := hf.shape
    (repeat ((conv => whnf); first | refine numP_i64 (by omega) ?_ | refine numP_u64 (by omega) ?_ | refine numP_u8 (by omega) ?_ | refine Exists.intro _ (And.intro ‹_› ?_) | refine Exists.intro _ (And.intro rfl ?_) | refine And.intro (by omega) (Exists.intro _ (And.intro rfl ?_)) | refine And.intro (by omega) ?_)); (conv => whnf)
    refine (nat_trim _ B _ d _ w1 hf.old).call ?_
    rintro _ w2 ⟨rfl, rfl⟩
    (conv => whnf)
    have h4 : (trimL (eachS g xs ys (max xs.length ys.length + 1)).1).length = tlen (eachS g xs ys (max xs.length ys.length + 1)).1 := by unfold trimL; rw [List.length_take, Nat.min_eq_left (tlen_le _)]
    rw [h4]
    exact hf.take_ (tlen_le _)
theorem nat_each1 (S S' : Nat → Prop) (A A' : Option Addr) (n n' c c' gid : Nat) (p : Value) (xs ys : List Nat) (w : World) (g : Nat → Nat → Nat → Nat × Nat) (good : Nat → Prop)
    (hx : SlR kU S w (.slice A n c) xs) (hy : SlR kU S' w (.slice A' n' c') ys) (hxs : ∀ x ∈ xs, x < 1000000000) (hys : ∀ x ∈ ys, x < 1000000000) (hl : xs.length ≤ 1000 ∧ ys.length ≤ 1000)
    (h0 : good 0) (hg : ∀ a b c, a < 1000000000 → b < 1000000000 → good c → (g a b c).1 < 1000000000 ∧ good (g a b c).2)
    (hst : ∀ (a b c : Nat) (w' : World), a < 1000000000 → b < 1000000000 → good c → Ext w w' → Ret Tryz.prog gid #[.int .u64 a, .int .u64 b, .int .u64 c, p] w' fun v w'' => v = .tuple #[.int .u64 ((g a b c).1 : Nat), .int .u64 ((g a b c).2 : Nat)] ∧ w'' = w') :
    Ret Tryz.prog 150 #[.slice A n c, .slice A' n' c', .func (.func gid) #[] #[p]] w fun v w' => Fresh kU 124 w w' v (trimL (eachL g xs ys)) := by
  obtain ⟨rfl, hx1, hx2⟩ := hx.len
  obtain ⟨rfl, hy1, hy2⟩ := hy.len
  have hall := fun i => each_all (good := good) hxs hys h0 hg i
  refine fn_ret tok Tryz.func150 (by kernel_rfl) rfl rfl ?_
  (repeat ((conv => whnf); first | refine numP_i64 (by omega) ?_ | refine numP_u64 (by omega) ?_ | refine numP_u8 (by omega) ?_ | refine Exists.intro _ (And.intro ‹_› ?_) | refine Exists.intro _ (And.intro rfl ?_) | refine And.intro (by omega) (Exists.intro _ (And.intro rfl ?_)) | refine And.intro (by omega) ?_)); (conv => whnf)
  have hm : imax (xs.length : Int) (ys.length : Int) = ((max xs.length ys.length : Nat) : Int) := by unfold imax; split <;> omega
  rw [hm]
  (repeat ((conv => whnf); first | refine numP_i64 (by omega) ?_ | refine numP_u64 (by omega) ?_ | refine numP_u8 (by omega) ?_ | refine Exists.intro _ (And.intro ‹_› ?_) | refine Exists.intro _ (And.intro rfl ?_) | refine And.intro (by omega) (Exists.intro _ (And.intro rfl ?_)) | refine And.intro (by omega) ?_)); (conv => whnf)
  refine loop_rule tok [7, 8, 19] [0, 1, 2, 18] (fun vs w' => ∃ (i : Nat) (v : Value), vs = [v, .int .u64 ((eachS g xs ys i).2 : Nat), .int .i64 i] ∧ i ≤ max xs.length ys.length + 1 ∧ Fresh kU 124 w w' v (eachS g xs ys i).1) (fun vs w => match vs with | [_, _, .int _ i] => max xs.length ys.length + 1 - i.toNat | _ => 0) ?_
  (conv => whnf)
  refine ⟨?_, ?_⟩
  · (conv => whnf)
    exact ⟨0, _, rfl, by omega, Fresh.nil _ _ (Chg.refl _ _)⟩
  rintro _ w1 ⟨i, v, rfl, hi, hf⟩
  have hS := eachS_succ g xs ys i
  have hb := hall i
  have hstep := hst (xs.getD i 0) (ys.getD i 0) (eachS g xs ys i).2 w1 (getD_lt hxs i) (getD_lt hys i) hb.2 hf.ext
  have hgt : ∀ (zs : List Nat), ¬ (i : Int) < (zs.length : Int) → zs.getD i 0 = 0 := fun zs h => by rw [List.getD_eq_getElem?_getD, List.getElem?_eq_none (by omega)]; rfl
  have hln := eachS_len g xs ys i
  (conv => whnf)
  refine condP_dec (fun h1 => ?_) (fun h1 => ?_)
  · (repeat ((conv => whnf); first | refine numP_i64 (by omega) ?_ | refine numP_u64 (by omega) ?_ | refine numP_u8 (by omega) ?_ | refine Exists.intro _ (And.intro ‹_› ?_) | refine Exists.intro _ (And.intro rfl ?_) | refine And.intro (by omega) (Exists.intro _ (And.intro rfl ?_)) | refine And.intro (by omega) ?_)); (conv => whnf)
    refine condP_dec (fun h2 => ?_) (fun h2 => ?_)
    · obtain ⟨ad, rfl, hc1⟩ := (hx.ext hf.ext).u i (by omega) h2
      (repeat ((conv => whnf); first | refine numP_i64 (by omega) ?_ | refine numP_u64 (by omega) ?_ | refine numP_u8 (by omega) ?_ | refine Exists.intro _ (And.intro ‹_› ?_) | refine Exists.intro _ (And.intro rfl ?_) | refine And.intro (by omega) (Exists.intro _ (And.intro rfl ?_)) | refine And.intro (by omega) ?_)); (conv => whnf)
      refine condP_dec (fun h3 => ?_) (fun h3 => ?_)
      · obtain ⟨ad', rfl, hc2⟩ := (hy.ext hf.ext).u i (by omega) h3
        (repeat ((conv => whnf); first | refine numP_i64 (by omega) ?_ | refine numP_u64 (by omega) ?_ | refine numP_u8 (by omega) ?_ | refine Exists.intro _ (And.intro ‹_› ?_) | refine Exists.intro _ (And.intro rfl ?_) | refine And.intro (by omega) (Exists.intro _ (And.intro rfl ?_)) | refine And.intro (by omega) ?_)); (conv => whnf)
        refine hstep.call ?_
        rintro _ _ ⟨rfl, rfl⟩
        (repeat ((conv => whnf); first | refine numP_i64 (by omega) ?_ | refine numP_u64 (by omega) ?_ | refine numP_u8 (by omega) ?_ | refine Exists.intro _ (And.intro ‹_› ?_) | refine Exists.intro _ (And.intro rfl ?_) | refine And.intro (by omega) (Exists.intro _ (And.intro rfl ?_)) | refine And.intro (by omega) ?_)); (conv => whnf)
        intro b w2 hw
        (conv => whnf)
        refine fall_in (app_fresh tok rfl rfl rfl rfl rfl hw hf (x := _) rfl (by omega) (by omega) fun v' w3 hf3 hch => ?_)
        (repeat ((conv => whnf); first | refine numP_i64 (by omega) ?_ | refine numP_u64 (by omega) ?_ | refine numP_u8 (by omega) ?_ | refine Exists.intro _ (And.intro ‹_› ?_) | refine Exists.intro _ (And.intro rfl ?_) | refine And.intro (by omega) (Exists.intro _ (And.intro rfl ?_)) | refine And.intro (by omega) ?_)); (conv => whnf)
        refine ⟨⟨rfl, rfl⟩, ⟨i + 1, v', by rw [hS]; rfl, by omega, by rw [hS]; exact hf3⟩, by simp; omega⟩
      · rw [hgt ys h3] at hstep hS
        (repeat ((conv => whnf); first | refine numP_i64 (by omega) ?_ | refine numP_u64 (by omega) ?_ | refine numP_u8 (by omega) ?_ | refine Exists.intro _ (And.intro ‹_› ?_) | refine Exists.intro _ (And.intro rfl ?_) | refine And.intro (by omega) (Exists.intro _ (And.intro rfl ?_)) | refine And.intro (by omega) ?_)); (conv => whnf)
        refine hstep.call ?_
        rintro _ _ ⟨rfl, rfl⟩
        (repeat ((conv => whnf); first | refine numP_i64 (by omega) ?_ | refine numP_u64 (by omega) ?_ | refine numP_u8 (by omega) ?_ | refine Exists.intro _ (And.intro ‹_› ?_) | refine Exists.intro _ (And.intro rfl ?_) | refine And.intro (by omega) (Exists.intro _ (And.intro rfl ?_)) | refine And.intro (by omega) ?_)); (conv => whnf)
        intro b w2 hw
        (conv => whnf)
        refine fall_in (app_fresh tok rfl rfl rfl rfl rfl hw hf (x := _) rfl (by omega) (by omega) fun v' w3 hf3 hch => ?_)
        (repeat ((conv => whnf); first | refine numP_i64 (by omega) ?_ | refine numP_u64 (by omega) ?_ | refine numP_u8 (by omega) ?_ | refine Exists.intro _ (And.intro ‹_› ?_) | refine Exists.intro _ (And.intro rfl ?_) | refine And.intro (by omega) (Exists.intro _ (And.intro rfl ?_)) | refine And.intro (by omega) ?_)); (conv => whnf)
        refine ⟨⟨rfl, rfl⟩, ⟨i + 1, v', by rw [hS]; rfl, by omega, by rw [hS]; exact hf3⟩, by simp; omega⟩
    · rw [hgt xs h2] at hstep hS
      (repeat ((conv => whnf); first | refine numP_i64 (by omega) ?_ | refine numP_u64 (by omega) ?_ | refine numP_u8 (by omega) ?_ | refine Exists.intro _ (And.intro ‹_› ?_) | refine Exists.intro _ (And.intro rfl ?_) | refine And.intro (by omega) (Exists.intro _ (And.intro rfl ?_)) | refine And.intro (by omega) ?_)); (conv => whnf)
      refine condP_dec (fun h3 => ?_) (fun h3 => ?_)
      · obtain ⟨ad', rfl, hc2⟩ := (hy.ext hf.ext).u i (by omega) h3
        (repeat ((conv => whnf); first | refine numP_i64 (by omega) ?_ | refine numP_u64 (by omega) ?_ | refine numP_u8 (by omega) ?_ | refine Exists.intro _ (And.intro ‹_› ?_) | refine Exists.intro _ (And.intro rfl ?_) | refine And.intro (by omega) (Exists.intro _ (And.intro rfl ?_)) | refine And.intro (by omega) ?_)); (conv => whnf)
        refine hstep.call ?_
        rintro _ _ ⟨rfl, rfl⟩
        (repeat ((conv => whnf); first | refine numP_i64 (by omega) ?_ | refine numP_u64 (by omega) ?_ | refine numP_u8 (by omega) ?_ | refine Exists.intro _ (And.intro ‹_› ?_) | refine Exists.intro _ (And.intro rfl ?_) | refine And.intro (by omega) (Exists.intro _ (And.intro rfl ?_)) | refine And.intro (by omega) ?_)); (conv => whnf)
        intro b w2 hw
        (conv => whnf)
        refine fall_in (app_fresh tok rfl rfl rfl rfl rfl hw hf (x := _) rfl (by omega) (by omega) fun v' w3 hf3 hch => ?_)
        (repeat ((conv => whnf); first | refine numP_i64 (by omega) ?_ | refine numP_u64 (by omega) ?_ | refine numP_u8 (by omega) ?_ | refine Exists.intro _ (And.intro ‹_› ?_) | refine Exists.intro _ (And.intro rfl ?_) | refine And.intro (by omega) (Exists.intro _ (And.intro rfl ?_)) | refine And.intro (by omega) ?_)); (conv => whnf)
        refine ⟨⟨rfl, rfl⟩, ⟨i + 1, v', by rw [hS]; rfl, by omega, by rw [hS]; exact hf3⟩, by simp; omega⟩
      · rw [hgt ys h3] at hstep hS
        (repeat ((conv => whnf); first | refine numP_i64 (by omega) ?_ | refine numP_u64 (by omega) ?_ | refine numP_u8 (by omega) ?_ | refine Exists.intro _ (And.intro ‹_› ?_) | refine Exists.intro _ (And.intro rfl ?_) | refine And.intro (by omega) (Exists.intro _ (And.intro rfl ?_)) | refine And.intro (by omega) ?_)); (conv => whnf)
        refine hstep.call ?_
        rintro _ _ ⟨rfl, rfl⟩
        (repeat ((conv => whnf); first | refine numP_i64 (by omega) ?_ | refine numP_u64 (by omega) ?_ | refine numP_u8 (by omega) ?_ | refine Exists.intro _ (And.intro ‹_› ?_) | refine Exists.intro _ (And.intro rfl ?_) | refine And.intro (by omega) (Exists.intro _ (And.intro rfl ?_)) | refine And.intro (by omega) ?_)); (conv => whnf)
        intro b w2 hw
        (conv => whnf)
        refine fall_in (app_fresh tok rfl rfl rfl rfl rfl hw hf (x := _) rfl (by omega) (by omega) fun v' w3 hf3 hch => ?_)
        (repeat ((conv => whnf); first | refine numP_i64 (by omega) ?_ | refine numP_u64 (by omega) ?_ | refine numP_u8 (by omega) ?_ | refine Exists.intro _ (And.intro ‹_› ?_) | refine Exists.intro _ (And.intro rfl ?_) | refine And.intro (by omega) (Exists.intro _ (And.intro rfl ?_)) | refine And.intro (by omega) ?_)); (conv => whnf)
        refine ⟨⟨rfl, rfl⟩, ⟨i + 1, v', by rw [hS]; rfl, by omega, by rw [hS]; exact hf3⟩, by simp; omega⟩
  · obtain rfl : i = max xs.length ys.length + 1 := by omega
    obtain ⟨B, d, rfl, h2, h3⟩ := hf.shape
    (repeat ((conv => whnf); first | refine numP_i64 (by omega) ?_ | refine numP_u64 (by omega) ?_ | refine numP_u8 (by omega) ?_ | refine Exists.intro _ (And.intro ‹_› ?_) | refine Exists.intro _ (And.intro rfl ?_) | refine And.intro (by omega) (Exists.intro _ (And.intro rfl ?_)) | refine And.intro (by omega) ?_)); (conv => whnf)
    refine (nat_trim _ B _ d _ w1 hf.old).call ?_
    rintro _ w2 ⟨rfl, rfl⟩
    (conv => whnf)
    have h4 : (trimL (eachS g xs ys (max xs.length ys.length + 1)).1).length = tlen (eachS g xs ys (max xs.length ys.length + 1)).1 := by unfold trimL; rw [List.length_take, Nat.min_eq_left (tlen_le _)]
    rw [h4]
    exact hf.take_ (tlen_le _)
theorem nat_plus (S S' : Nat → Prop) (A A' : Option Addr) (n n' c c' a b : Nat) (w : World) (hx : SlR kU S w (.slice A n c) (blk a)) (hy : SlR kU S' w (.slice A' n' c') (blk b)) (hl : (blk a).length ≤ 1000 ∧ (blk b).length ≤ 1000) :
    Ret Tryz.prog 118 #[.slice A n c, .slice A' n' c'] w fun v w' => Fresh kU 124 w w' v (blk (a + b)) := by
  refine fn_ret tok Tryz.func118 (by kernel_rfl) rfl rfl ?_
  (conv => whnf)
  refine (nat_each S S' A A' n n' c c' 151 (blk a) (blk b) w gPlus (fun c => c ≤ 1) hx hy (blk_all a) (blk_all b) hl (Nat.zero_le _) (fun a b c ha hb hc => ⟨(gPlus_ok ha hb hc).1, (gPlus_ok ha hb hc).2.1⟩) (fun a b c w' ha hb hc _ => plus1 a b c w' ha hb hc)).call ?_
  rintro v w' h
  rw [plus_blk] at h
  (conv => whnf)
  exact h
theorem nat_minus (S S' : Nat → Prop) (A A' : Option Addr) (n n' c c' a b : Nat) (w : World) (hx : SlR kU S w (.slice A n c) (blk a)) (hy : SlR kU S' w (.slice A' n' c') (blk b)) (hl : (blk a).length ≤ 1000 ∧ (blk b).length ≤ 1000) (hba : b ≤ a) :
    Ret Tryz.prog 120 #[.slice A n c, .slice A' n' c'] w fun v w' => Fresh kU 124 w w' v (blk (a - b)) := by
  refine fn_ret tok Tryz.func120 (by kernel_rfl) rfl rfl ?_
  (conv => whnf)
  refine (nat_each S S' A A' n n' c c' 153 (blk a) (blk b) w gMinus (fun c => c ≤ 1) hx hy (blk_all a) (blk_all b) hl (Nat.zero_le _) (fun a b c ha hb hc => ⟨(gMinus_ok ha hb hc).1, (gMinus_ok ha hb hc).2.1⟩) (fun a b c w' ha hb hc _ => minus1 a b c w' ha hb hc)).call ?_
  rintro v w' h
  rw [minus_blk hba] at h
  (conv => whnf)
  exact h
theorem nat_scaled (S : Nat → Prop) (A : Option Addr) (n c a k : Nat) (w : World) (hx : SlR kU S w (.slice A n c) (blk a)) (hl : (blk a).length ≤ 1000) (hk : k < 1000000000) :
    Ret Tryz.prog 144 #[.slice A n c, .int .u64 k] w fun v w' => Fresh kU 124 w w' v (blk (a * k)) := by
  refine fn_ret tok Tryz.func144 (by kernel_rfl) rfl rfl ?_
  (conv => whnf)
  intro b w1 hw
  (conv => whnf)
  have hE : Ext w w1 := hw.chg No
  have hc : w1.cell? ⟨b, 0, none⟩ = some (.int .u64 k) := by rw [cell_of_blk hw.blk]; rfl
  refine (nat_each1 S No A none n 0 c 0 169 (.pointer (some ⟨b, 0, none⟩)) (blk a) [] w1 (gTimes k) (fun c => c < 1000000000) (hx.ext hE) (SlR.nil _ _ _) (blk_all a) (fun x h => by simp at h) ⟨hl, by simp⟩ (by decide) (fun a b c ha hb hc => ⟨(gTimes_ok (b := b) hk ha hc).1, (gTimes_ok (b := b) hk ha hc).2.1⟩)
    (fun a b c w' ha hb hc2 hE2 => times1 a b c k _ w' hk ha hc2 (hE2.cell hc (fun h => h)))).call ?_
  rintro v w' h
  rw [times_blk hk] at h
  (conv => whnf)
  exact h.back hE
end Go.Proofs.YtfeegacmmfgjfaaGreatDoorX

/-!  The library: strings.Builder, which writes its own address first (the shelf's lines, turned to this program: its copyCheck has a way that the shelf's has not). -/
set_option linter.unusedVariables false
namespace Go.Proofs.YtfeegacmmfgjfaaGreatDoorX
open Go Go.RowKit Go.Shelf Go.Proofs

theorem bX : (Tryz.prog.info? 180).map (·.size) = some 2 := by kernel_rfl
theorem bLies : liesAt Tryz.prog Tryz.prog.depth 180 (2 / Tryz.prog.cellsOf 180) 0 180 1 = true := by kernel_rfl
set_option maxHeartbeats 1000000 in
set_option maxRecDepth 100000 in
theorem copyCheck_used (b : Nat) (w : World) (h0 : w.cell? ⟨b, 0, none⟩ = some (.pointer (some ⟨b, 0, none⟩))) :
    Calls Tryz.prog 171 #[.pointer (some ⟨b, 0, none⟩)] w fun e w' => e = .returned (.tuple #[]) ∧ w' = w := by
  obtain ⟨j, hj, _⟩ := Option.map_eq_some_iff.1 bX
  go_enter Tryz.func171, Tryz.ntmps171
  go_wp2
  rw [Lib.run_neq_ptr_same w _ Tryz.underlying178 hj]
  go_wp2
  go_end0
  exact ⟨rfl, rfl⟩
set_option maxHeartbeats 1000000 in
set_option maxRecDepth 100000 in
theorem copyCheck_fresh (b : Nat) (w : World) (h0 : w.cell? ⟨b, 0, none⟩ = some (.pointer none)) (hsh : w.shape? b = some (180, 2)) (hfz : w.frozen? ⟨b, 0, none⟩ = false) :
    Calls Tryz.prog 171 #[.pointer (some ⟨b, 0, none⟩)] w fun e w' => e = .returned (.tuple #[]) ∧ w' = w.setCell ⟨b, 0, none⟩ (.pointer (some ⟨b, 0, none⟩)) := by
  obtain ⟨j, hj, hjs⟩ := Option.map_eq_some_iff.1 bX
  go_enter Tryz.func171, Tryz.ntmps171
  go_wp2
  rw [Lib.run_to_unsafe w ⟨b, 0, none⟩ Tryz.underlying178 Tryz.underlying214 hj (by rw [hjs]; decide) hsh (Nat.zero_lt_succ 1)]
  simp only [Result.andThen]
  rw [Oper.upon_value]
  go_wp2
  rw [run_callFunc_extern Tryz.func184 (by kernel_rfl) (by kernel_rfl) (by kernel_rfl) (e := Extern.AbiNoEscape.same) (by kernel_rfl)]
  rw [Lib.run_noEscape]
  simp only [Result.andThen]
  rw [Oper.upon_value]
  go_wp2
  rw [Lib.run_from_unsafe w ⟨b, 0, none⟩ Tryz.underlying214 Tryz.underlying178 hj hsh bLies]
  simp only [Result.andThen]
  rw [Oper.upon_value]
  go_wp2
  go_end0
  exact ⟨rfl, rfl⟩
theorem copyCheck (B b : Nat) (bs : List Value) (w : World) (h : Lib.IsBuilder 180 5 B b bs w) :
    Calls Tryz.prog 171 #[.pointer (some ⟨b, 0, none⟩)] w fun e w' => e = .returned (.tuple #[]) ∧ (Lib.BuilderAt 180 5 B b (.pointer (some ⟨b, 0, none⟩)) bs w' ∧ Below B w w') := by
  rcases h with h | h
  · refine (copyCheck_fresh b w h.cell0 h.shape h.frozen0).mono ?_
    rintro e w' ⟨rfl, rfl⟩
    exact ⟨rfl, h.used _, (Below.refl B w).setCell (p := ⟨b, 0, none⟩) h.1 _⟩
  · refine (copyCheck_used b w h.cell0).mono ?_
    rintro e w' ⟨rfl, rfl⟩
    exact ⟨rfl, h, Below.refl B _⟩
theorem infoByte : (Tryz.prog.info? 5).map (fun i => (i.zero, i.size, i.bytes)) = some (some (.int .u8 0), 1, 1) := by kernel_rfl
set_option maxHeartbeats 2000000 in
set_option maxRecDepth 100000 in
theorem writeString (B b : Nat) (bs : List Value) (s : ByteArray) (w : World) (h : Lib.IsBuilder 180 5 B b bs w) (hlen : bs.length + s.size ≤ 140737488355328) (hBw : B ≤ w.heap.size) :
    Calls Tryz.prog 147 #[.pointer (some ⟨b, 0, none⟩), .string s] w fun e w' => e = .returned (.tuple #[.int .i64 s.size, .nilIface]) ∧ (Lib.BuilderAt 180 5 B b (.pointer (some ⟨b, 0, none⟩)) (bs ++ Lib.strCells s) w' ∧ Below B w w') := by
  obtain ⟨i0, hi, hz0, hz1, hz2⟩ := info_parts infoByte
  have e171 : ∀ args w, (callFunc 171 args).run Tryz.prog w = .ok (.enter 171 args) w := enters_of Tryz.func171 (by kernel_rfl) rfl
  go_enter Tryz.func147, Tryz.ntmps147
  go_wp2_with (go_at_fn 171; refine (copyCheck B b bs _ h).mono ?_)
  rintro e w1 ⟨rfl, h1, hb1⟩
  obtain ⟨hB, v, hbk, hown, hne⟩ := h1
  have c0 : w1.cell? ⟨b, 0, none⟩ = some (.pointer (some ⟨b, 0, none⟩)) := by rw [Lib.cell_of_heap hbk]; rfl
  have c1 : w1.cell? ⟨b, 1, none⟩ = some v := by rw [Lib.cell_of_heap hbk]; rfl
  go_wp2_with (at_builtin; refine Lib.wpList_append_own_string _ rfl _ _ 137 9 rfl B 5 i0 Tryz.underlying137 Tryz.underlying9 hi hz0 hz1 hz2 _ _ _ rfl hown s rfl ?c3 ?c4 ?c5 ?_)
  case c3 => unfold maxLen; omega
  case c4 => omega
  case c5 => have := hb1.size; omega
  intro v' w2 hown' hgrow _
  have hlt : b < w1.heap.size := by
    rcases Nat.lt_or_ge b w1.heap.size with h' | h'
    · exact h'
    · simp [Array.getElem?_eq_none h'] at hbk
  have hb2 : w2.heap[b]? = some (.cells #[.pointer (some ⟨b, 0, none⟩), v] 180 (0, 0)) := by
    rw [hgrow.block b hlt (fun e => hne e.symm)]
    exact hbk
  have d0 : w2.cell? ⟨b, 0, none⟩ = some (.pointer (some ⟨b, 0, none⟩)) := by rw [Lib.cell_of_heap hb2]; rfl
  have d1 : w2.cell? ⟨b, 1, none⟩ = some v := by rw [Lib.cell_of_heap hb2]; rfl
  have f1 : w2.frozen? ⟨b, 1, none⟩ = false := Lib.frozen_of_heap hb2 1
  obtain ⟨ao, n', cap, rfl⟩ : ∃ ao n' cap, v' = .slice ao n' cap := by
    rcases hown'.2 with ⟨hv, _⟩ | ⟨g, cap, cur, hv, _⟩
    · exact ⟨_, _, _, hv⟩
    · exact ⟨_, _, _, hv⟩
  go_wp2
  go_ret2
  refine ⟨rfl, ?_, ?_⟩
  · exact Lib.BuilderAt.put (T := 180) (e := 5) hB hb2 (bs' := bs ++ Lib.strCells s) (by simpa [Lib.strCells_length] using hown') (by decide)
  · exact (hb1.grown hgrow (by have := hb1.size; omega) (fun k hk => (hown.lt k hk).1)).setCell (p := ⟨b, 1, none⟩) hB _

/-! ## In these proofs' words -/
/-- The library's variable that is read. -/
abbrev Laid (w : World) : Prop := Lib.TabIs Tryz.prog w "internal/strconv.uint64pow10" .u64 Lib.pow10Tab
theorem gPow : Tryz.prog.globalNamed "internal/strconv.uint64pow10" = some 1 := by kernel_rfl
theorem Laid.ext {w w' : World} (h : Laid w) (hc : Ext w w') : Laid w' := by
  unfold Laid Lib.TabIs World.var? at *
  rw [gPow] at h ⊢
  simp only [Option.bind_some] at h ⊢
  have hlt : 1 < w.heap.size := by
    rcases Nat.lt_or_ge 1 w.heap.size with h' | h'
    · exact h'
    · rw [Array.getElem?_eq_none h'] at h; cases h
  rw [hc.block 1 hlt (fun h => h)]
  exact h
/-- A builder made since w0. -/
structure Bld (w0 w : World) (b : Nat) (l : List UInt8) : Prop where
  is : Lib.IsBuilder 180 5 w0.heap.size b (Lib.byteCells l) w
  ext : Ext w0 w
theorem byteCells_str (l : List UInt8) : Lib.strCells (str l) = Lib.byteCells l := by unfold Lib.strCells Lib.byteCells; rfl
theorem byteCells_app (a b : List UInt8) : Lib.byteCells a ++ Lib.byteCells b = Lib.byteCells (a ++ b) := by unfold Lib.byteCells; simp
theorem byteCells_len (a : List UInt8) : (Lib.byteCells a).length = a.length := by unfold Lib.byteCells; simp
theorem Bld.new {w0 w w' : World} {b : Nat} (h : Ext w0 w) (hw : NewB w (.cells #[.pointer none, .slice none 0 0] 180) b w') : Bld w0 w' b [] := by
  refine ⟨.inl ⟨?_, .slice none 0 0, hw.blk, World.ownsRow_nil _ _ _ _, by simp [Value.ownBlock]⟩, h.trans (hw.chg _)⟩
  rw [hw.hb]; exact h.size
theorem Bld.up {w0 w w' : World} {b : Nat} {l : List UInt8} (h : Bld w0 w b l) (hc : Ext w w') : Bld w0 w' b l := by
  have one : ∀ p, Lib.BuilderAt 180 5 w0.heap.size b p (Lib.byteCells l) w → Lib.BuilderAt 180 5 w0.heap.size b p (Lib.byteCells l) w' := by
    rintro p hb
    have hlt := hb.lt
    obtain ⟨hB, v, hbk, hown, hne⟩ := hb
    have hg : w.grownBy w' none := ⟨hc.os, hc.tape, hc.output, hc.size, fun k hk _ => hc.block k hk (fun h => h)⟩
    refine ⟨hB, v, ?_, hown.kept hg ?_, hne⟩
    · rw [hc.block b hlt (fun h => h)]; exact hbk
    · cases v.ownBlock with
      | none => exact .inl rfl
      | some k => exact .inr (by simp)
  refine ⟨?_, h.ext.trans hc⟩
  rcases h.is with h | h
  · exact .inl (one _ h)
  · exact .inr (one _ h)
theorem bld_write (w0 w : World) (b : Nat) (l s : List UInt8) (h : Bld w0 w b l) (hl : l.length + s.length ≤ 140737488355328) :
    Ret Tryz.prog 147 #[.pointer (some ⟨b, 0, none⟩), .string (str s)] w fun v w' => v = .tuple #[.int .i64 s.length, .nilIface] ∧ Bld w0 w' b (l ++ s) := by
  refine Ret.of Tryz.func147 (by kernel_rfl) (by kernel_rfl) ((writeString w0.heap.size b _ (str s) w h.is (by rw [byteCells_len]; exact hl) h.ext.size).mono ?_)
  rintro e w' ⟨rfl, h1, h2⟩
  rw [byteCells_str, byteCells_app] at h1
  exact ⟨_, rfl, rfl, .inr h1, ⟨h2.os.trans h.ext.os, h2.tape.trans h.ext.tape, h2.output.trans h.ext.output, Nat.le_trans h.ext.size h2.size, fun k hk hn => (h2.block k hk).trans (h.ext.block k hk hn)⟩⟩
theorem bld_string (w0 w : World) (b : Nat) (l : List UInt8) (h : Bld w0 w b l) :
    Ret Tryz.prog 149 #[.pointer (some ⟨b, 0, none⟩)] w fun v w' => v = .string (str l) ∧ Ext w0 w' := by
  refine Ret.of Tryz.func149 (by kernel_rfl) (by kernel_rfl) ((Tryz.Builder_String_any w0.heap.size b l w h.is h.ext.size).mono ?_)
  rintro e w' ⟨rfl, h2⟩
  exact ⟨_, rfl, rfl, ⟨h2.os.trans h.ext.os, h2.tape.trans h.ext.tape, h2.output.trans h.ext.output, Nat.le_trans h.ext.size h2.size, fun k hk hn => (h2.block k hk).trans (h.ext.block k hk hn)⟩⟩
end Go.Proofs.YtfeegacmmfgjfaaGreatDoorX

/-!  The library: numerals. -/
set_option linter.unusedVariables false
set_option maxRecDepth 10000
namespace Go.Proofs.YtfeegacmmfgjfaaGreatDoorX
open Go Go.RowKit Go.Proofs Go.Sort

theorem ext_putRow {w0 w w' : World} {b off n : Nat} {dk : Array UInt8} (h : Ext w0 w) (hb : w0.heap.size ≤ b) (e : w' = (putRow (fun (b : UInt8) => Value.int .u8 (b.toNat : Int)) w b off dk).drewN n) : Ext w0 w' := by
  subst e
  refine ⟨h.os, h.tape, h.output, ?_, fun k hk hn => ?_⟩
  · have := h.size
    simpa [putRow, mapBlock, World.drewN] using this
  · rw [← h.block k hk hn]
    show (putRow _ w b off dk).heap[k]? = _
    simp only [putRow, mapBlock, Array.getElem?_modify]
    rw [if_neg (by omega)]
theorem sem_slice_h {P : Program} {t ty : TypeId} {x hi : Operand} {E : Env} {w w' : World} {K : Value → World → Prop} {vx vh v : Value} (hx : ev E x = some vx) (hh : ev E hi = some vh)
    (h : (Instr.sliceAt t vx none (some vh) none).run P w = .ok v w') (hK : K v w') : SemOp P (.slice t x none (some hi) none) ty E w K := by
  refine .of fun ρ o hρ hop hty => ⟨v, w', ?_, hK⟩
  unfold execOp
  rw [hop]
  simp only [Option.map, hρ _ _ hx, hρ _ _ hh, Sem.run_bind, h, Result.andThen_ok, Sem.run_pure]
theorem sem_convert {P : Program} {s t ty : TypeId} {x : Operand} {E : Env} {w w' : World} {K : Value → World → Prop} {vx v : Value} (hx : ev E x = some vx)
    (h : (convert s t vx).run P w = .ok v w') (hK : K v w') : SemOp P (.convert s t x) ty E w K := by
  refine .of fun ρ o hρ hop hty => ⟨v, w', ?_, hK⟩
  unfold execOp
  rw [hop]
  simp only [hρ _ _ hx, Sem.run_bind, h, Result.andThen_ok, Sem.run_pure]
theorem arr24 : Tryz.prog.arrayLen 194 = 24 := by kernel_rfl
theorem slice24 (w : World) (b nd : Nat) (h : nd ≤ 24) : (Instr.sliceAt 194 (.pointer (some ⟨b, 0, none⟩)) none (some (.int .i64 nd)) none).run Tryz.prog w = .ok (.slice (some ⟨b, 0, none⟩) nd 24) w := by
  rw [run_sliceAt_array_h w 194 ⟨b, 0, none⟩ (by simp [Program.arrayLen, Program.elem, Tryz.underlying194]) .i64 nd (by omega) (by rw [arr24]; omega)]
  go_simp
theorem holds0 (w : World) (nd : Nat) (hs : nd ≤ 24) : Holds (fun (b : UInt8) => Value.int .u8 (b.toNat : Int)) (w.alloc (.cells Lib.zeros24 194)) w.heap.size 0 (Array.replicate nd (0 : UInt8)) := fun j hj => by
  have hj' : j < nd := by simpa using hj
  refine ⟨?_, World.frozen?_alloc_new _ _ _ _⟩
  rw [World.cell?_alloc_new, Lib.zeros24_at _ (by omega), getElem!_pos _ j hj]
  simp
theorem fmt10_ (u nd b : Nat) (w w1 : World) (hu : u < 18446744073709551616) (hnd : nd = Lib.nDigits u) (hs : nd ≤ 24) (hw : NewB w (.cells Lib.zeros24 194) b w1) :
    Ret Tryz.prog 162 #[.slice (some ⟨b, 0, none⟩) nd 24, .int .u64 u] w1 fun v w' => v = .tuple #[] ∧ Ext w w' ∧ ∀ j (hj : j < (Lib.decDigits u).length), w'.cell? (Addr.add ⟨b, 0, none⟩ j) = some (.int .u8 ((Lib.decDigits u)[j].toNat : Int)) := by
  obtain ⟨rfl, rfl⟩ := hw
  subst hnd
  have hH := holds0 w (Lib.nDigits u) hs
  have hfmt := Tryz.internal_strconv_formatBase10 w.heap.size 0 24 u (Array.replicate (Lib.nDigits u) 0) (w.alloc (.cells Lib.zeros24 194)) hH (by rw [Array.size_replicate]; exact Lib.lt_pow_nDigits u) hu (by rw [Array.size_replicate]; omega)
  rw [Array.size_replicate] at hfmt
  refine Ret.of Tryz.func162 (by kernel_rfl) (by kernel_rfl) (hfmt.mono ?_)
  rintro e w' ⟨rfl, n, v', dk, rfl, hF⟩
  refine ⟨_, rfl, rfl, ext_putRow (NewB.chg ⟨rfl, rfl⟩ No) (Nat.le_refl _) rfl, fun j hj => ?_⟩
  rw [Lib.row_is_numeral hF j hj, Lib.add_plain, World.cell?_drewN]
  exact cell?_putRow (fun (b : UInt8) => Value.int .u8 (b.toNat : Int)) _ w.heap.size 0 _ dk hH (by rw [hF.size, Array.size_replicate]) j (by rw [hF.size]; rw [Lib.decDigits_length] at hj; exact hj)
theorem small_ (i : Nat) (h : i < 100) (w : World) : Ret Tryz.prog 160 #[.int .i64 i] w fun v w' => v = .string (str (Lib.decDigits i)) ∧ w' = w := by
  refine Ret.of Tryz.func160 (by kernel_rfl) (by kernel_rfl) ((Tryz.internal_strconv_small i h w).mono ?_)
  rintro e w' ⟨rfl, rfl⟩
  exact ⟨_, rfl, rfl, rfl⟩
theorem numDigits_ (u : Nat) (h1 : 1 ≤ u) (h2 : u < 18446744073709551616) (w : World) (hL : Laid w) : Ret Tryz.prog 161 #[.int .u64 u] w fun v w' => v = .int .i64 (Lib.nDigits u) ∧ w' = w := by
  refine Ret.of Tryz.func161 (by kernel_rfl) (by kernel_rfl) ((Tryz.internal_strconv_numDigits u h1 h2 w hL).mono ?_)
  rintro e w' ⟨rfl, rfl⟩
  exact ⟨_, rfl, rfl, rfl⟩
theorem fmtU_ (u : Nat) (hu : u < 18446744073709551616) (w : World) (hL : Laid w) : Ret Tryz.prog 170 #[.int .u64 u, .int .i64 10] w fun v w' => v = .string (str (Lib.decDigits u)) ∧ Ext w w' := by
  refine fn_ret tok Tryz.func170 (by kernel_rfl) rfl rfl ?_
  (conv => whnf)
  refine condP_yes rfl ?_
  (conv => whnf)
  refine condP_dec (fun h => ?_) (fun h => ?_)
  · (repeat ((conv => whnf); first | refine numP_i64 (by omega) ?_ | refine numP_u64 (by omega) ?_ | refine numP_u8 (by omega) ?_ | refine Exists.intro _ (And.intro ‹_› ?_) | refine Exists.intro _ (And.intro rfl ?_) | refine And.intro (by omega) (Exists.intro _ (And.intro rfl ?_)) | refine And.intro (by omega) ?_)); (conv => whnf)
    refine (small_ u (by omega) w).call ?_
    rintro _ _ ⟨rfl, rfl⟩
    (conv => whnf)
    exact ⟨rfl, Chg.refl _ _⟩
  · (conv => whnf)
    refine fall_in (sem_alloc (z := .agg Lib.zeros24) Tryz.zeroValue194 fun b w1 hw => ?_)
    have hnd : Lib.nDigits u ≤ 20 := by have := Lib.numDigits_eq u (by omega) hu; split at this <;> omega
    (conv => whnf)
    refine (numDigits_ u (by omega) hu w1 (hL.ext (hw.chg _))).call ?_
    rintro _ _ ⟨rfl, rfl⟩
    (conv => whnf)
    refine fall_in (sem_slice_h rfl rfl (slice24 _ _ _ (by omega)) ?_)
    (conv => whnf)
    refine (fmt10_ u _ b w _ hu rfl (by omega) hw).call ?_
    rintro _ w2 ⟨rfl, hE, hc⟩
    (conv => whnf)
    refine fall_in (sem_slice_h rfl rfl (slice24 _ _ _ (by omega)) ?_)
    (conv => whnf)
    refine fall_in (sem_convert rfl (by rw [← Lib.decDigits_length]; exact run_convert_bytes_back w2 137 9 5 ⟨b, 0, none⟩ 24 (Lib.decDigits u) Tryz.underlying137 Tryz.underlying5 Tryz.underlying9 hc) ?_)
    (conv => whnf)
    exact ⟨rfl, hE⟩
theorem fmtU (u : Nat) (hu : u < 18446744073709551616) (w : World) (hL : Laid w) : Ret Tryz.prog 146 #[.int .u64 u, .int .i64 10] w fun v w' => v = .string (str (Lib.decDigits u)) ∧ Ext w w' := by
  refine fn_ret tok Tryz.func146 (by kernel_rfl) rfl rfl ?_
  (conv => whnf)
  refine (fmtU_ u hu w hL).call ?_
  rintro _ w2 ⟨rfl, hE⟩
  (conv => whnf)
  exact ⟨rfl, hE⟩
theorem ext_grow (w : World) (k : Nat) (os : Array Obj) : Ext w (grow (w.drewN k) os) := by
  refine ⟨rfl, rfl, rfl, ?_, fun b hb _ => ?_⟩
  · show w.heap.size ≤ (w.heap ++ os).size
    simp
  · show (w.heap ++ os)[b]? = _
    rw [Array.getElem?_append_left hb]
theorem itoa_ (n : Int) (h0 : -9223372036854775808 ≤ n) (h1 : n ≤ 9223372036854775807) (w : World) (hL : Laid w) : Ret Tryz.prog 49 #[.int .i64 n] w fun v w' => v = .string (str (Lib.itoa n)) ∧ Ext w w' := by
  refine Ret.of Tryz.func49 (by kernel_rfl) (by kernel_rfl) ((Tryz.strconv_Itoa n h0 h1 w hL).mono ?_)
  rintro e w' ⟨rfl, k, os, rfl⟩
  exact ⟨_, rfl, rfl, ext_grow w k os⟩
end Go.Proofs.YtfeegacmmfgjfaaGreatDoorX

/-!  The library: strings.HasPrefix, CutPrefix; strings.Repeat of "0". -/
set_option linter.unusedVariables false
set_option maxRecDepth 10000
namespace Go.Proofs.YtfeegacmmfgjfaaGreatDoorX
open Go Go.RowKit Go.Proofs Go.Sort

def hasPre (s p : List UInt8) : Bool := decide (p.length ≤ s.length) && decide (s.take p.length = p)
theorem hasPrefix0 (s p : List UInt8) (w : World) (hs : s.length ≤ 9223372036854775807) (hp : p.length ≤ 9223372036854775807) : Ret Tryz.prog 142 #[.string (str s), .string (str p)] w fun v w' => v = .bool (hasPre s p) ∧ w' = w := by
  have h1 : ((str s).size : Int) = s.length := rfl
  have h2 : ((str p).size : Int) = p.length := rfl
  refine fn_ret tok Tryz.func142 (by kernel_rfl) rfl rfl ?_
  (conv => whnf)
  refine condP_dec (fun h => ?_) (fun h => ?_)
  · (repeat ((conv => whnf); first | refine numP_i64 (by omega) ?_ | refine numP_u64 (by omega) ?_ | refine numP_u8 (by omega) ?_ | refine Exists.intro _ (And.intro ‹_› ?_) | refine Exists.intro _ (And.intro rfl ?_) | refine And.intro (by omega) (Exists.intro _ (And.intro rfl ?_)) | refine And.intro (by omega) ?_)); (conv => whnf)
    refine ⟨?_, rfl⟩
    have h3 : (str s).extract (0 : Int).toNat (((str p).size : Int)).toNat = str (s.take p.length) := by
      rw [str_extract]; simp [str_size]
    rw [h3, strEq_str, hasPre, decide_eq_true (show p.length ≤ s.length by omega)]
    rfl
  · (repeat ((conv => whnf); first | refine numP_i64 (by omega) ?_ | refine numP_u64 (by omega) ?_ | refine numP_u8 (by omega) ?_ | refine Exists.intro _ (And.intro ‹_› ?_) | refine Exists.intro _ (And.intro rfl ?_) | refine And.intro (by omega) (Exists.intro _ (And.intro rfl ?_)) | refine And.intro (by omega) ?_)); (conv => whnf)
    refine ⟨?_, rfl⟩
    rw [hasPre, decide_eq_false (show ¬ p.length ≤ s.length by omega)]
    rfl
theorem hasPrefix (s p : List UInt8) (w : World) (hs : s.length ≤ 9223372036854775807) (hp : p.length ≤ 9223372036854775807) : Ret Tryz.prog 173 #[.string (str s), .string (str p)] w fun v w' => v = .bool (hasPre s p) ∧ w' = w := by
  refine fn_ret tok Tryz.func173 (by kernel_rfl) rfl rfl ?_
  (conv => whnf)
  refine (hasPrefix0 s p w hs hp).call ?_
  rintro _ _ ⟨rfl, rfl⟩
  (conv => whnf)
  exact ⟨rfl, rfl⟩
theorem hasPrefix_no (a : UInt8) (r : List UInt8) (w : World) (ha : a ≠ 48) (hs : (a :: r).length ≤ 9223372036854775807) : Ret Tryz.prog 173 #[.string (str (a :: r)), .string (str [48])] w fun v w' => v = .bool false ∧ w' = w := by
  have h := hasPrefix (a :: r) [48] w hs (by decide)
  have e : hasPre (a :: r) [48] = false := by
    unfold hasPre
    simp [ha]
  rw [e] at h
  exact h
theorem hasPrefix_yes (r : List UInt8) (w : World) (hs : (48 :: r).length ≤ 9223372036854775807) : Ret Tryz.prog 173 #[.string (str (48 :: r)), .string (str [48])] w fun v w' => v = .bool true ∧ w' = w := by
  have h := hasPrefix (48 :: r) [48] w hs (by decide)
  have e : hasPre (48 :: r) [48] = true := by
    unfold hasPre
    simp
  rw [e] at h
  exact h
theorem bits_mul (x y : Nat) (hx : x < 18446744073709551616) (hy : y < 18446744073709551616) (w : World) : Ret Tryz.prog 172 #[.int .u64 x, .int .u64 y] w fun v w' => v = .tuple #[.int .u64 ((x * y / 18446744073709551616 : Nat) : Int), .int .u64 ((x * y % 18446744073709551616 : Nat) : Int)] ∧ w' = w := by
  refine Ret.of Tryz.func172 (by kernel_rfl) (by kernel_rfl) ((Tryz.bits_Mul x y hx hy w).mono ?_)
  rintro e w' ⟨rfl, rfl⟩
  exact ⟨_, rfl, rfl, rfl⟩
theorem repeat0 (n : Nat) (hn : n ≤ 64) (w : World) : Ret Tryz.prog 148 #[.string (str [48]), .int .i64 n] w fun v w' => v = .string (str (List.replicate n 48)) ∧ w' = w := by
  refine fn_ret tok Tryz.func148 (by kernel_rfl) rfl rfl ?_
  (conv => whnf)
  refine condP_dec (fun h => ?_) (fun h => ?_)
  · (conv => whnf)
    exact ⟨by rw [show n = 0 by omega]; rfl, rfl⟩
  (conv => whnf)
  refine condP_dec (fun h1 => ?_) (fun h1 => ?_)
  · (conv => whnf)
    exact ⟨by rw [show n = 1 by omega]; rfl, rfl⟩
  have hs1 : (str [48]).size = 1 := rfl
  (repeat ((conv => whnf); first | refine numP_i64 (by omega) ?_ | refine numP_u64 (by omega) ?_ | refine numP_u8 (by omega) ?_ | refine Exists.intro _ (And.intro ‹_› ?_) | refine Exists.intro _ (And.intro rfl ?_) | refine And.intro (by omega) (Exists.intro _ (And.intro rfl ?_)) | refine And.intro (by omega) ?_)); (conv => whnf)
  refine condP_no (by omega) ?_
  (repeat ((conv => whnf); first | refine numP_i64 (by omega) ?_ | refine numP_u64 (by omega) ?_ | refine numP_u8 (by omega) ?_ | refine Exists.intro _ (And.intro ‹_› ?_) | refine Exists.intro _ (And.intro rfl ?_) | refine And.intro (by omega) (Exists.intro _ (And.intro rfl ?_)) | refine And.intro (by omega) ?_)); (conv => whnf)
  refine (bits_mul 1 n (by omega) (by omega) _).call ?_
  have hq : 1 * n / 18446744073709551616 = 0 := by omega
  have hr : 1 * n % 18446744073709551616 = n := by omega
  rw [hq, hr]
  rintro _ w' ⟨rfl, rfl⟩
  (repeat ((conv => whnf); first | refine numP_i64 (by omega) ?_ | refine numP_u64 (by omega) ?_ | refine numP_u8 (by omega) ?_ | refine Exists.intro _ (And.intro ‹_› ?_) | refine Exists.intro _ (And.intro rfl ?_) | refine And.intro (by omega) (Exists.intro _ (And.intro rfl ?_)) | refine And.intro (by omega) ?_ | refine condP_yes (by omega) ?_ | refine condP_no (by omega) ?_)); (conv => whnf)
  rw [show byteAt (str [48]) 0 = 48 from rfl]
  (repeat ((conv => whnf); first | refine numP_i64 (by omega) ?_ | refine numP_u64 (by omega) ?_ | refine numP_u8 (by omega) ?_ | refine Exists.intro _ (And.intro ‹_› ?_) | refine Exists.intro _ (And.intro rfl ?_) | refine And.intro (by omega) (Exists.intro _ (And.intro rfl ?_)) | refine And.intro (by omega) ?_ | refine condP_yes (by omega) ?_ | refine condP_no (by omega) ?_)); (conv => whnf)
  refine (hasPrefix_no _ _ w' ?_ ?_).call ?_
  · decide
  · decide
  rintro _ _ ⟨rfl, rfl⟩
  (repeat ((conv => whnf); first | refine numP_i64 (by omega) ?_ | refine numP_u64 (by omega) ?_ | refine numP_u8 (by omega) ?_ | refine Exists.intro _ (And.intro ‹_› ?_) | refine Exists.intro _ (And.intro rfl ?_) | refine And.intro (by omega) (Exists.intro _ (And.intro rfl ?_)) | refine And.intro (by omega) ?_ | refine condP_yes (by omega) ?_ | refine condP_no (by omega) ?_)); (conv => whnf)
  refine (hasPrefix_no _ _ _ ?_ ?_).call ?_
  · decide
  · decide
  rintro _ _ ⟨rfl, rfl⟩
  (repeat ((conv => whnf); first | refine numP_i64 (by omega) ?_ | refine numP_u64 (by omega) ?_ | refine numP_u8 (by omega) ?_ | refine Exists.intro _ (And.intro ‹_› ?_) | refine Exists.intro _ (And.intro rfl ?_) | refine And.intro (by omega) (Exists.intro _ (And.intro rfl ?_)) | refine And.intro (by omega) ?_ | refine condP_yes (by omega) ?_ | refine condP_no (by omega) ?_)); (conv => whnf)
  refine (hasPrefix_yes _ _ ?_).call ?_
  · decide
  rintro _ _ ⟨rfl, rfl⟩
  (repeat ((conv => whnf); first | refine numP_i64 (by omega) ?_ | refine numP_u64 (by omega) ?_ | refine numP_u8 (by omega) ?_ | refine Exists.intro _ (And.intro ‹_› ?_) | refine Exists.intro _ (And.intro rfl ?_) | refine And.intro (by omega) (Exists.intro _ (And.intro rfl ?_)) | refine And.intro (by omega) ?_ | refine condP_yes (by omega) ?_ | refine condP_no (by omega) ?_)); (conv => whnf)
  refine ⟨⟨by omega, by omega, ?_⟩, ?_⟩
  · exact (show (n : Int) ≤ 64 by omega)
  (conv => whnf)
  refine ⟨?_, rfl⟩
  have h64 : ∀ n : Nat, n ≤ 64 → (str (List.replicate 64 48)).extract (0 : Int).toNat (n : Int).toNat = str (List.replicate n 48) := fun n hn => by
    rw [str_extract, show (0 : Int).toNat = 0 from rfl, Int.toNat_natCast, List.drop_zero, List.take_replicate, Nat.min_eq_left hn]
  exact congrArg Value.string (h64 n hn)
end Go.Proofs.YtfeegacmmfgjfaaGreatDoorX

/-!  Package nat: the text of blocks; Add, Sub. -/
set_option linter.unusedVariables false
set_option maxRecDepth 10000
namespace Go.Proofs.YtfeegacmmfgjfaaGreatDoorX
open Go Go.RowKit Go.Proofs Go.Proofs.YtfeegacmmfgjfaaGreatDoorM

theorem nat_text (S : Nat → Prop) (A : Option Addr) (n c a : Nat) (w : World) (hL : Laid w) (hx : SlR kU S w (.slice A n c) (blk a)) (hl : (blk a).length ≤ 4000) :
    Ret Tryz.prog 117 #[.slice A n c] w fun v w' => v = .string (str (dd a)) ∧ Ext w w' := by
  obtain ⟨rfl, hx1, hx2⟩ := hx.len
  refine fn_ret tok Tryz.func117 (by kernel_rfl) rfl rfl ?_
  (conv => whnf)
  refine condP_dec (fun h => ?_) (fun h => ?_)
  · (conv => whnf)
    refine ⟨?_, Chg.refl _ _⟩
    have h0 : a = 0 := blk_nil.1 (List.length_eq_zero_iff.1 (Int.ofNat.inj h))
    rw [h0, dd_small (by omega)]
    rfl
  have h0 : a ≠ 0 := fun e => h (by rw [blk_nil.2 e]; rfl)
  (conv => whnf)
  intro b w1 hw
  (conv => whnf)
  refine loop_rule tok [11] [0, 3, 10] (fun vs w' => ∃ i : Nat, vs = [.int .i64 i] ∧ i ≤ (blk a).length ∧ Bld w w' b (textAt a i)) (fun vs w => match vs with | [.int _ i] => (blk a).length - i.toNat | _ => 0) ?_
  (conv => whnf)
  refine ⟨?_, ?_⟩
  · (conv => whnf)
    exact ⟨0, rfl, by omega, Bld.new (Chg.refl _ _) hw⟩
  rintro _ w2 ⟨i, rfl, hi, hB⟩
  (conv => whnf)
  refine condP_dec (fun h1 => ?_) (fun h1 => ?_)
  · (repeat ((conv => whnf); first | refine numP_i64 (by omega) ?_ | refine numP_u64 (by omega) ?_ | refine numP_u8 (by omega) ?_ | refine Exists.intro _ (And.intro ‹_› ?_) | refine Exists.intro _ (And.intro rfl ?_) | refine And.intro (by omega) (Exists.intro _ (And.intro rfl ?_)) | refine And.intro (by omega) ?_)); (conv => whnf)
    obtain ⟨ad, rfl, hc1⟩ := (hx.ext hB.ext).u ((blk a).length - 1 - i) (by omega) (by omega)
    (repeat ((conv => whnf); first | refine numP_i64 (by omega) ?_ | refine numP_u64 (by omega) ?_ | refine numP_u8 (by omega) ?_ | refine Exists.intro _ (And.intro ‹_› ?_) | refine Exists.intro _ (And.intro rfl ?_) | refine And.intro (by omega) (Exists.intro _ (And.intro rfl ?_)) | refine And.intro (by omega) ?_)); (conv => whnf)
    have hk : (((blk a).length : Int) - 1 - i).toNat = (blk a).length - 1 - i := by omega
    rw [hk]
    have hst := textAt_step h0 (i := i) (by omega)
    have hlen := textAt_len (n := a) (i := i) hi
    have hlen2 := textAt_len (n := a) (i := i + 1) (by omega)
    have hlt := getD_lt (blk_all a) ((blk a).length - 1 - i)
    have h9 : (dd ((blk a).getD ((blk a).length - 1 - i) 0)).length ≤ 9 := dd_len_le (by omega) hlt
    generalize (blk a).getD ((blk a).length - 1 - i) 0 = x at *
    refine (fmtU x (by omega) w2 (hL.ext hB.ext)).call ?_
    rintro _ w3 ⟨rfl, hE3⟩
    (conv => whnf)
    have hB3 := hB.up hE3
    have h9' : (Lib.decDigits x).length ≤ 9 := h9
    have hsd : ((str (Lib.decDigits x)).size : Int) = (dd x).length := rfl
    refine condP_dec (fun h2 => ?_) (fun h2 => ?_)
    · rw [if_pos (by omega)] at hst
      (repeat ((conv => whnf); first | refine numP_i64 (by omega) ?_ | refine numP_u64 (by omega) ?_ | refine numP_u8 (by omega) ?_ | refine Exists.intro _ (And.intro ‹_› ?_) | refine Exists.intro _ (And.intro rfl ?_) | refine And.intro (by omega) (Exists.intro _ (And.intro rfl ?_)) | refine And.intro (by omega) ?_)); (conv => whnf)
      have hr : (9 - ((str (Lib.decDigits x)).size : Int)) = ((9 - (dd x).length : Nat) : Int) := by omega
      rw [hr]
      refine (repeat0 _ (by omega) w3).call ?_
      rintro _ _ ⟨rfl, rfl⟩
      (conv => whnf)
      refine (bld_write w _ b _ _ hB3 (by rw [List.length_replicate]; omega)).call ?_
      rintro _ w4 ⟨rfl, hB4⟩
      (conv => whnf)
      refine (bld_write w _ b _ _ hB4 (by rw [List.length_append, List.length_replicate]; omega)).call ?_
      rintro _ w5 ⟨rfl, hB5⟩
      (repeat ((conv => whnf); first | refine numP_i64 (by omega) ?_ | refine numP_u64 (by omega) ?_ | refine numP_u8 (by omega) ?_ | refine Exists.intro _ (And.intro ‹_› ?_) | refine Exists.intro _ (And.intro rfl ?_) | refine And.intro (by omega) (Exists.intro _ (And.intro rfl ?_)) | refine And.intro (by omega) ?_)); (conv => whnf)
      rw [List.append_assoc, ← hst] at hB5
      exact ⟨⟨rfl, rfl⟩, ⟨i + 1, rfl, by omega, hB5⟩, by simp; omega⟩
    · rw [if_neg (by omega), List.nil_append] at hst
      (conv => whnf)
      refine (bld_write w _ b _ _ hB3 (by omega)).call ?_
      rintro _ w5 ⟨rfl, hB5⟩
      (repeat ((conv => whnf); first | refine numP_i64 (by omega) ?_ | refine numP_u64 (by omega) ?_ | refine numP_u8 (by omega) ?_ | refine Exists.intro _ (And.intro ‹_› ?_) | refine Exists.intro _ (And.intro rfl ?_) | refine And.intro (by omega) (Exists.intro _ (And.intro rfl ?_)) | refine And.intro (by omega) ?_)); (conv => whnf)
      rw [← hst] at hB5
      exact ⟨⟨rfl, rfl⟩, ⟨i + 1, rfl, by omega, hB5⟩, by simp; omega⟩
  · obtain rfl : i = (blk a).length := by omega
    (repeat ((conv => whnf); first | refine numP_i64 (by omega) ?_ | refine numP_u64 (by omega) ?_ | refine numP_u8 (by omega) ?_ | refine Exists.intro _ (And.intro ‹_› ?_) | refine Exists.intro _ (And.intro rfl ?_) | refine And.intro (by omega) (Exists.intro _ (And.intro rfl ?_)) | refine And.intro (by omega) ?_)); (conv => whnf)
    rw [textAt_all h0] at hB
    refine (bld_string w w2 b _ hB).call ?_
    rintro _ w3 ⟨rfl, hE⟩
    (conv => whnf)
    exact ⟨rfl, hE⟩
theorem nat_limited (S : Nat → Prop) (A : Option Addr) (n c a : Nat) (w : World) (hL : Laid w) (hx : SlR kU S w (.slice A n c) (blk a)) (hl : (blk a).length ≤ 4000) :
    Ret Tryz.prog 82 #[.slice A n c] w fun v w' => v = .tuple #[.string (str (limS a)), .int .i64 (limE a)] ∧ Ext w w' := by
  refine fn_ret tok Tryz.func82 (by kernel_rfl) rfl rfl ?_
  (conv => whnf)
  refine (nat_text S A n c a w hL hx hl).call ?_
  rintro _ w1 ⟨rfl, hE⟩
  have hsz : ((str (dd a)).size : Int) = (dd a).length := rfl
  (conv => whnf)
  refine condP_dec (fun h => ?_) (fun h => ?_)
  · (conv => whnf)
    rw [limS_no (by omega), limE_no (by omega)]
    exact ⟨rfl, hE⟩
  · (conv => whnf)
    rw [limS_ok (by omega), limE_ok (by omega)]
    exact ⟨rfl, hE⟩
theorem nat_Valid_dd (x : Nat) (w : World) (hx : (dd x).length ≤ 1000) : Ret Tryz.prog 76 #[.string (str (dd x))] w fun v w' => v = .bool true ∧ w' = w := by
  have := nat_Valid (dd x) w (by omega)
  rwa [isNat_dd hx] at this
theorem nat_blocks_dd (x : Nat) (w : World) (hx : (dd x).length ≤ 1000) : Ret Tryz.prog 81 #[.string (str (dd x))] w fun v w' => Fresh kU 124 w w' v (blk x) := by
  have := nat_blocks (dd x) w (dd_dig x) hx
  rwa [dval_dd] at this
theorem nat_Add (x y : Nat) (w : World) (hL : Laid w) (hx : (dd x).length ≤ 1000) (hy : (dd y).length ≤ 1000) : Ret Tryz.prog 78 #[.string (str (dd x)), .string (str (dd y))] w fun v w' => v = .tuple #[.string (str (limS (x + y))), .int .i64 (limE (x + y))] ∧ Ext w w' := by
  refine fn_ret tok Tryz.func78 (by kernel_rfl) rfl rfl ?_
  (conv => whnf)
  refine (nat_Valid_dd x _ hx).call ?_
  rintro _ _ ⟨rfl, rfl⟩
  (conv => whnf)
  refine (nat_Valid_dd y _ hy).call ?_
  rintro _ _ ⟨rfl, rfl⟩
  (conv => whnf)
  refine (nat_blocks_dd x _ hx).call ?_
  rintro v1 w1 h1
  (conv => whnf)
  refine (nat_blocks_dd y _ hy).call ?_
  rintro v2 w2 h2
  obtain ⟨A1, c1, rfl, _⟩ := h1.shape
  obtain ⟨A2, c2, rfl, _⟩ := h2.shape
  have hlx : (blk x).length ≤ 112 := blk_len_dd (by omega)
  have hly : (blk y).length ≤ 112 := blk_len_dd (by omega)
  (conv => whnf)
  refine (nat_plus _ _ _ _ _ _ _ _ _ _ _ (h1.old.ext h2.ext) h2.old ⟨by omega, by omega⟩).call ?_
  rintro v3 w3 h3
  obtain ⟨A3, c3, rfl, _⟩ := h3.shape
  (conv => whnf)
  have hl3 : (blk (x + y)).length ≤ 4000 := blk_len_dd (by have := dd_add hx hy; omega)
  refine (nat_limited _ _ _ _ _ _ (((hL.ext h1.ext).ext h2.ext).ext h3.ext) h3.old hl3).call ?_
  rintro _ w4 ⟨rfl, h4⟩
  (conv => whnf)
  exact ⟨rfl, ((h1.ext.trans h2.ext).trans h3.ext).trans h4⟩
/-- Of a b that is not greater. -/
theorem nat_Sub (x y : Nat) (w : World) (hL : Laid w) (hx : (dd x).length ≤ 1000) (hy : (dd y).length ≤ 1000) (hyx : y ≤ x) : Ret Tryz.prog 80 #[.string (str (dd x)), .string (str (dd y))] w fun v w' => v = .tuple #[.string (str (dd (x - y))), .int .i64 0] ∧ Ext w w' := by
  refine fn_ret tok Tryz.func80 (by kernel_rfl) rfl rfl ?_
  (conv => whnf)
  refine (nat_Valid_dd x _ hx).call ?_
  rintro _ _ ⟨rfl, rfl⟩
  (conv => whnf)
  refine (nat_Valid_dd y _ hy).call ?_
  rintro _ _ ⟨rfl, rfl⟩
  (conv => whnf)
  refine (nat_blocks_dd x _ hx).call ?_
  rintro v1 w1 h1
  (conv => whnf)
  refine (nat_blocks_dd y _ hy).call ?_
  rintro v2 w2 h2
  obtain ⟨A1, c1, rfl, _⟩ := h1.shape
  obtain ⟨A2, c2, rfl, _⟩ := h2.shape
  have hlx : (blk x).length ≤ 112 := blk_len_dd (by omega)
  have hly : (blk y).length ≤ 112 := blk_len_dd (by omega)
  (conv => whnf)
  refine (nat_compare _ _ _ _ _ _ _ _ _ _ _ (h1.old.ext h2.ext) h2.old).call ?_
  rintro _ w3 ⟨rfl, h3⟩
  have hc : 0 ≤ cmpN x y := by
    unfold cmpN
    rw [if_neg (by omega)]
    split <;> omega
  (repeat ((conv => whnf); first | refine numP_i64 (by omega) ?_ | refine numP_u64 (by omega) ?_ | refine numP_u8 (by omega) ?_ | refine Exists.intro _ (And.intro ‹_› ?_) | refine Exists.intro _ (And.intro rfl ?_) | refine And.intro (by omega) (Exists.intro _ (And.intro rfl ?_)) | refine And.intro (by omega) ?_ | refine condP_yes (by omega) ?_ | refine condP_no (by omega) ?_)); (conv => whnf)
  have h12 := (h1.old.ext h2.ext).ext h3
  have h22 := h2.old.ext h3
  refine (nat_minus _ _ _ _ _ _ _ _ _ _ _ h12 h22 ⟨by omega, by omega⟩ hyx).call ?_
  rintro v4 w4 h4
  obtain ⟨A4, c4, rfl, _⟩ := h4.shape
  (conv => whnf)
  have hl4 : (blk (x - y)).length ≤ 4000 := blk_len_dd (by have := dd_mono (show x - y ≤ x by omega); omega)
  refine (nat_text _ _ _ _ _ _ ((((hL.ext h1.ext).ext h2.ext).ext h3).ext h4.ext) h4.old hl4).call ?_
  rintro _ w5 ⟨rfl, h5⟩
  (conv => whnf)
  exact ⟨rfl, (((h1.ext.trans h2.ext).trans h3).trans h4.ext).trans h5⟩
end Go.Proofs.YtfeegacmmfgjfaaGreatDoorX

/-!  Plain: long division, block by block. -/
set_option linter.unusedVariables false
namespace Go.Proofs.YtfeegacmmfgjfaaGreatDoorM

/-! ## The estimate of a block of the quotient -/
structure Est (top v1 qt q rest : Nat) : Prop where
  le : qt ≤ q
  eq : top = q * v1 + rest
theorem quot_le {U V a b P : Nat} (hP : 0 < P) (hV : b * P ≤ V) (hU : U < (a + 1) * P) : U / V * b ≤ a := by
  have h1 : U / V * V ≤ U := Nat.div_mul_le_self U V
  have h2 : U / V * (b * P) ≤ U / V * V := Nat.mul_le_mul_left _ hV
  have h3 : U / V * b * P < (a + 1) * P := by rw [Nat.mul_assoc]; omega
  have := Nat.lt_of_mul_lt_mul_right h3
  omega
theorem est_start {U V top v1 P : Nat} (hv : 0 < v1) (hP : 0 < P) (hV : v1 * P ≤ V) (hU : U < (top + 1) * P) : Est top v1 (U / V) (top / v1) (top % v1) :=
  ⟨(Nat.le_div_iff_mul_le hv).2 (quot_le hP hV hU), by rw [Nat.mul_comm]; exact (Nat.div_add_mod top v1).symm⟩
theorem est_next {top v1 qt q rest : Nat} (h : Est top v1 qt q rest) (hq : qt < q) : Est top v1 qt (q - 1) (rest + v1) := by
  refine ⟨by omega, ?_⟩
  rw [h.eq]
  obtain ⟨k, rfl⟩ : ∃ k, q = k + 1 := ⟨q - 1, by omega⟩
  rw [Nat.add_sub_cancel, Nat.add_mul, Nat.one_mul]
  omega
theorem est_big {U V top v1 q rest : Nat} (h : Est top v1 (U / V) q rest) (hB : U < 1000000000 * V) (hq : 1000000000 ≤ q) : U / V < q := by
  have hV : 0 < V := by rcases Nat.eq_zero_or_pos V with rfl | h; · omega
                        exact h
  have : U / V < 1000000000 := (Nat.div_lt_iff_lt_mul hV).2 hB
  omega
theorem est_two {U V top v1 v2 u2 P2 q rest : Nat} (h : Est top v1 (U / V) q rest) (hP : 0 < P2) (hV : (v1 * 1000000000 + v2) * P2 ≤ V) (hU : U < (top * 1000000000 + u2 + 1) * P2) (hq : rest * 1000000000 + u2 < q * v2) : U / V < q := by
  have h1 := quot_le hP hV hU
  rcases Nat.lt_or_ge (U / V) q with h2 | h2
  · exact h2
  · exfalso
    have h3 : q * (v1 * 1000000000 + v2) ≤ U / V * (v1 * 1000000000 + v2) := Nat.mul_le_mul_right _ h2
    have h4 := h.eq
    rw [Nat.mul_add, ← Nat.mul_assoc] at h3
    have h5 : top * 1000000000 = q * v1 * 1000000000 + rest * 1000000000 := by rw [h4, Nat.add_mul]
    omega
theorem est_end1 {U V top v1 q rest : Nat} (h : Est top v1 (U / V) q rest) (hU : U = top) (hV : V = v1) (hv : 0 < v1) : q ≤ U / V + 1 := by
  subst hU; subst hV
  have : q ≤ U / V := (Nat.le_div_iff_mul_le hv).2 (by have := h.eq; omega)
  omega
theorem est_end2 {U V top v1 P lv q rest : Nat} (h : Est top v1 (U / V) q rest) (hU : top * P ≤ U) (hV : V = v1 * P + lv) (hl : lv ≤ P) (hV0 : 0 < V) (hr : 1000000000 ≤ rest) (hq : q < 1000000000) : q ≤ U / V + 1 := by
  have : q ≤ U / V := by
    refine (Nat.le_div_iff_mul_le hV0).2 ?_
    have h1 : q * lv ≤ 1000000000 * P := Nat.mul_le_mul (by omega) hl
    have h2 : (q * v1 + 1000000000) * P ≤ top * P := Nat.mul_le_mul_right _ (by have := h.eq; omega)
    rw [hV, Nat.mul_add, ← Nat.mul_assoc]
    rw [Nat.add_mul] at h2
    omega
  omega
theorem est_end3 {U V top v1 v2 u2 P2 lv q rest : Nat} (h : Est top v1 (U / V) q rest) (hU : (top * 1000000000 + u2) * P2 ≤ U) (hV : V = (v1 * 1000000000 + v2) * P2 + lv) (hl : lv ≤ P2) (hv : 0 < v1) (hP : 0 < P2) (hr : q * v2 ≤ rest * 1000000000 + u2) (hq : q < 1000000000) : q ≤ U / V + 1 := by
  have hV1 : 1000000000 * P2 ≤ V := by
    rw [hV]
    have : 1000000000 * P2 ≤ (v1 * 1000000000 + v2) * P2 := Nat.mul_le_mul_right _ (by omega)
    omega
  have hV0 : 0 < V := by omega
  rcases Nat.eq_zero_or_pos q with h0 | h0
  · rw [h0]; exact Nat.zero_le _
  have : q - 1 ≤ U / V := by
    refine (Nat.le_div_iff_mul_le hV0).2 ?_
    have h1 : q * lv ≤ 1000000000 * P2 := Nat.mul_le_mul (by omega) hl
    have h2 : q * (v1 * 1000000000 + v2) * P2 ≤ (top * 1000000000 + u2) * P2 := Nat.mul_le_mul_right _ (by
      have h4 := h.eq
      have h5 : top * 1000000000 = q * v1 * 1000000000 + rest * 1000000000 := by rw [h4, Nat.add_mul]
      rw [Nat.mul_add, ← Nat.mul_assoc]
      omega)
    have h3 : q * V = q * (v1 * 1000000000 + v2) * P2 + q * lv := by rw [hV, Nat.mul_add, Nat.mul_assoc]
    have h6 : q * V = (q - 1) * V + V := by
      obtain ⟨k, rfl⟩ : ∃ k, q = k + 1 := ⟨q - 1, by omega⟩
      rw [Nat.add_sub_cancel, Nat.add_mul, Nat.one_mul]
    omega
  omega

/-! ## A block at a time -/
theorem lowB_congr {xs ys : List Nat} : ∀ {i : Nat}, (∀ j, j < i → xs.getD j 0 = ys.getD j 0) → lowB xs i = lowB ys i
  | 0, _ => rfl
  | i + 1, h => by rw [lowB, lowB, lowB_congr fun j hj => h j (by omega), h i (by omega)]
theorem getD_drop (zs : List Nat) (at_ j : Nat) : (zs.drop at_).getD j 0 = zs.getD (at_ + j) 0 := by
  rw [List.getD_eq_getElem?_getD, List.getD_eq_getElem?_getD, List.getElem?_drop]
theorem getD_set_same (zs : List Nat) {k : Nat} (x : Nat) (h : k < zs.length) : (zs.set k x).getD k 0 = x := by
  rw [List.getD_eq_getElem?_getD, List.getElem?_set_self h]; rfl
theorem getD_set_other (zs : List Nat) {k j : Nat} (x : Nat) (h : k ≠ j) : (zs.set k x).getD j 0 = zs.getD j 0 := by
  rw [List.getD_eq_getElem?_getD, List.getD_eq_getElem?_getD, List.getElem?_set_ne h]
theorem low_set {zs : List Nat} {at_ i x : Nat} (h : at_ + i < zs.length) : lowB ((zs.set (at_ + i) x).drop at_) (i + 1) = lowB (zs.drop at_) i + 1000000000 ^ i * x := by
  rw [lowB, getD_drop, getD_set_same _ _ h]
  congr 1
  exact lowB_congr fun j hj => by rw [getD_drop, getD_drop, getD_set_other _ _ (by omega)]
theorem set_all {zs : List Nat} {k x : Nat} (h : ∀ z ∈ zs, z < 1000000000) (hx : x < 1000000000) : ∀ z ∈ zs.set k x, z < 1000000000 := by
  intro z hz
  rcases List.mem_or_eq_of_mem_set hz with hz | rfl
  · exact h z hz
  · exact hx
/-- One step of u - q v. -/
theorem msub_step {L Lu Lv P q vi ui b c : Nat} (ih : L + q * Lv = Lu + P * (b + c)) (hb : b ≤ 1) (hc : c < 1000000000) (hq : q < 1000000000) (hvi : vi < 1000000000) (hui : ui < 1000000000) :
    (L + P * ((ui + 1000000000 - (c + q * vi) % 1000000000 - b) % 1000000000)) + q * (Lv + P * vi) = (Lu + P * ui) + P * 1000000000 * ((1 - (ui + 1000000000 - (c + q * vi) % 1000000000 - b) / 1000000000) + (c + q * vi) / 1000000000) ∧
    1 - (ui + 1000000000 - (c + q * vi) % 1000000000 - b) / 1000000000 ≤ 1 ∧ (c + q * vi) / 1000000000 < 1000000000 := by
  have hm : q * vi ≤ 999999999 * 999999999 := Nat.mul_le_mul (by omega) (by omega)
  have e : q * (Lv + P * vi) = q * Lv + P * (q * vi) := by rw [Nat.mul_add, Nat.mul_left_comm]
  rw [e]
  generalize q * vi = m at *
  refine ⟨?_, by omega, by omega⟩
  have key : (ui + 1000000000 - (c + m) % 1000000000 - b) % 1000000000 + m + c + b = ui + 1000000000 * ((1 - (ui + 1000000000 - (c + m) % 1000000000 - b) / 1000000000) + (c + m) / 1000000000) := by omega
  generalize (ui + 1000000000 - (c + m) % 1000000000 - b) % 1000000000 = x at *
  generalize (1 - (ui + 1000000000 - (c + m) % 1000000000 - b) / 1000000000) + (c + m) / 1000000000 = y at *
  have k2 : P * (x + m + c + b) = P * (ui + 1000000000 * y) := by rw [key]
  rw [Nat.mul_add, Nat.mul_add, Nat.mul_add, Nat.mul_add, ← Nat.mul_assoc] at k2
  rw [Nat.mul_add] at ih
  omega
/-- One step of u + v. -/
theorem madd_step {L Lu Lv P vi ui c : Nat} (ih : L + P * c = Lu + Lv) :
    (L + P * ((ui + c + vi) % 1000000000)) + P * 1000000000 * ((ui + c + vi) / 1000000000) = (Lu + P * ui) + (Lv + P * vi) := by
  have key : (ui + c + vi) % 1000000000 + 1000000000 * ((ui + c + vi) / 1000000000) = ui + c + vi := Nat.mod_add_div _ _
  generalize (ui + c + vi) % 1000000000 = x at *
  generalize (ui + c + vi) / 1000000000 = y at *
  have k2 : P * (x + 1000000000 * y) = P * (ui + c + vi) := by rw [key]
  rw [Nat.mul_add, Nat.mul_add, Nat.mul_add, ← Nat.mul_assoc] at k2
  omega
theorem msub_ok {L q V U : Nat} (h : L + q * V = U) (hq : U / V ≤ q) (hV : 0 < V) : q = U / V ∧ L = U % V := by
  have h1 : q ≤ U / V := (Nat.le_div_iff_mul_le hV).2 (by omega)
  have h2 : q = U / V := by omega
  refine ⟨h2, ?_⟩
  have := Nat.mod_add_div U V
  rw [h2, Nat.mul_comm] at h
  omega
theorem madd_ok {L M q V U W c : Nat} (h : L + q * V = U + W) (hL : L < W) (hM : M + W * c = L + V) (hMW : M < W) (hVW : V ≤ W) (hq : q ≤ U / V + 1) (hV : 0 < V) : q - 1 = U / V ∧ M = U % V := by
  have h0 : U < q * V := by omega
  have h1 : U / V < q := (Nat.div_lt_iff_lt_mul hV).2 h0
  have h2 : q = U / V + 1 := by omega
  refine ⟨by rw [h2]; rfl, ?_⟩
  have h3 := Nat.mod_add_div U V
  have h4 : U % V < V := Nat.mod_lt _ hV
  rw [h2, Nat.add_mul, Nat.one_mul, Nat.mul_comm] at h
  generalize U % V = r at *
  generalize V * (U / V) = s at *
  have h5 : L + V = r + W := by omega
  rw [h5] at hM
  match c, hM with
  | 0, hM => rw [Nat.mul_zero] at hM; omega
  | 1, hM => rw [Nat.mul_one] at hM; omega
  | c + 2, hM =>
    have : W * 2 ≤ W * (c + 2) := Nat.mul_le_mul_left _ (by omega)
    omega
/-- What a row of n + 1 blocks and a divisor of n blocks are, at their tops. -/
theorem top_low {xs : List Nat} {n : Nat} : lowB xs (n + 1) = xs.getD n 0 * 1000000000 ^ n + lowB xs n := by
  rw [lowB, Nat.mul_comm]; omega
theorem tops_a {ds vs : List Nat} {n : Nat} (hn : 0 < n) (hd : ∀ z ∈ ds, z < 1000000000) (hv : ∀ z ∈ vs, z < 1000000000) :
    ∃ P lv lu, 0 < P ∧ lowB vs n = vs.getD (n - 1) 0 * P + lv ∧ lv < P ∧ lowB ds (n + 1) = (ds.getD n 0 * 1000000000 + ds.getD (n - 1) 0) * P + lu ∧ lu < P := by
  obtain ⟨m, rfl⟩ : ∃ m, n = m + 1 := ⟨n - 1, by omega⟩
  refine ⟨1000000000 ^ m, lowB vs m, lowB ds m, Nat.pow_pos (by decide), top_low, low_lt hv m, ?_, low_lt hd m⟩
  rw [top_low, top_low, Nat.add_sub_cancel, Nat.pow_succ, Nat.add_mul, Nat.mul_comm (1000000000 ^ m) 1000000000, Nat.mul_assoc, Nat.add_assoc]
theorem tops_b {ds vs : List Nat} {n : Nat} (hn : 1 < n) (hd : ∀ z ∈ ds, z < 1000000000) (hv : ∀ z ∈ vs, z < 1000000000) :
    ∃ P lv lu, 0 < P ∧ lowB vs n = (vs.getD (n - 1) 0 * 1000000000 + vs.getD (n - 2) 0) * P + lv ∧ lv < P ∧ lowB ds (n + 1) = ((ds.getD n 0 * 1000000000 + ds.getD (n - 1) 0) * 1000000000 + ds.getD (n - 2) 0) * P + lu ∧ lu < P := by
  obtain ⟨m, rfl⟩ : ∃ m, n = m + 2 := ⟨n - 2, by omega⟩
  refine ⟨1000000000 ^ m, lowB vs m, lowB ds m, Nat.pow_pos (by decide), ?_, low_lt hv m, ?_, low_lt hd m⟩
  · rw [top_low, top_low, show m + 2 - 1 = m + 1 by omega, show m + 2 - 2 = m by omega, Nat.pow_succ, Nat.add_mul, Nat.mul_comm (1000000000 ^ m) 1000000000, Nat.mul_assoc, Nat.add_assoc]
  · rw [top_low, top_low, top_low, show m + 2 - 1 = m + 1 by omega, show m + 2 - 2 = m by omega, Nat.pow_succ, Nat.pow_succ, Nat.add_mul, Nat.add_mul, Nat.add_mul]
    generalize 1000000000 ^ m = p
    generalize lowB ds m = l
    generalize ds.getD (m + 2) 0 = x
    generalize ds.getD (m + 1) 0 = y
    generalize ds.getD m 0 = z
    have e1 : x * (p * 1000000000 * 1000000000) = x * 1000000000 * 1000000000 * p := by ac_rfl
    have e2 : y * (p * 1000000000) = y * 1000000000 * p := by ac_rfl
    omega
theorem tops_1 (ds vs : List Nat) : lowB vs 1 = vs.getD 0 0 ∧ lowB ds 2 = ds.getD 1 0 * 1000000000 + ds.getD 0 0 := by
  refine ⟨?_, ?_⟩
  · show 0 + 1000000000 ^ 0 * _ = _
    rw [Nat.pow_zero, Nat.one_mul, Nat.zero_add]
  · show 0 + 1000000000 ^ 0 * _ + 1000000000 ^ 1 * _ = _
    rw [Nat.pow_zero, Nat.one_mul, Nat.zero_add, Nat.pow_one, Nat.mul_comm 1000000000, Nat.add_comm]
end Go.Proofs.YtfeegacmmfgjfaaGreatDoorM

/-!  Package nat: a digit of a quotient. -/
set_option linter.unusedVariables false
set_option maxRecDepth 10000
namespace Go.Proofs.YtfeegacmmfgjfaaGreatDoorX
open Go Go.RowKit Go.Proofs Go.Proofs.YtfeegacmmfgjfaaGreatDoorM

theorem Fresh.at_ {w0 w : World} {g N cc : Nat} {us : List Nat} (h : Fresh kU 124 w0 w (.slice (some ⟨g, 0, none⟩) N cc) us) (o : Nat) (i : Int) (k : Nat) (hk : o + i.toNat = k) (hi : k < us.length) :
    w.cell? ((⟨g, o, none⟩ : Addr).add (i.toNat * 1)) = some (.int .u64 ((us.getD k 0 : Nat) : Int)) := by
  rw [addr_add, Nat.mul_one, hk]
  exact (h.cell kU_one hi 0).1
theorem SlR.u_ {S : Nat → Prop} {w : World} {ad : Addr} {m c : Nat} {xs : List Nat} (h : SlR kU S w (.slice (some ad) m c) xs) (i : Int) (k : Nat) (hk : i.toNat = k) (hi : k < xs.length) : w.cell? (ad.add (i.toNat * 1)) = some (.int .u64 ((xs.getD k 0 : Nat) : Int)) := by
  obtain ⟨ad', cs, he, _, rfl, hc⟩ := h.get (List.getElem?_eq_getElem hi)
  cases he
  rw [hk, List.getD_eq_getElem?_getD, List.getElem?_eq_getElem hi]
  exact cellsAt_zero hc rfl
theorem tdivN (a b : Nat) : (a : Int).tdiv b = ((a / b : Nat) : Int) := by
  rw [Int.tdiv_eq_ediv_of_nonneg (by omega)]; rfl
theorem tmodN (a b : Nat) : (a : Int).tmod b = ((a % b : Nat) : Int) := by
  rw [Int.tmod_eq_emod_of_nonneg (by omega)]; rfl
theorem tmodB (a : Nat) : (a : Int).tmod 1000000000 = ((a % 1000000000 : Nat) : Int) := tmodN a 1000000000
theorem tdivB (a : Nat) : (a : Int).tdiv 1000000000 = ((a / 1000000000 : Nat) : Int) := tdivN a 1000000000
theorem nat_digit (w0 w : World) (S : Nat → Prop) (A : Option Addr) (g o n N cc cu cv : Nat) (us vs : List Nat) (hu : Fresh kU 124 w0 w (.slice (some ⟨g, 0, none⟩) N cc) us) (ho : o + n + 1 ≤ us.length) (hus : ∀ z ∈ us, z < 1000000000)
    (hv : SlR kU S w (.slice A n cv) vs) (hS : ¬ S g) (hvs : ∀ z ∈ vs, z < 1000000000) (hn : 0 < n) (hn2 : n ≤ 4000) (htop : vs.getD (n - 1) 0 ≠ 0) (hlt : lowB (us.drop o) (n + 1) < 1000000000 * lowB vs n) :
    Ret Tryz.prog 145 #[.slice (some ⟨g, o, none⟩) (n + 1) cu, .slice A n cv] w fun v w' => v = .int .u64 ((lowB (us.drop o) (n + 1) / lowB vs n : Nat) : Int) ∧ ∃ us', Fresh kU 124 w0 w' (.slice (some ⟨g, 0, none⟩) N cc) us' ∧ us'.length = us.length ∧ (∀ z ∈ us', z < 1000000000) ∧
      (∀ j, j < o ∨ o + n + 1 ≤ j → us'.getD j 0 = us.getD j 0) ∧ lowB (us'.drop o) (n + 1) = lowB (us.drop o) (n + 1) % lowB vs n ∧ Chg (fun b => b = g) w w' := by
  obtain ⟨rfl, hv1, hv2⟩ := hv.len
  have hds : ∀ z ∈ us.drop o, z < 1000000000 := fun z hz => hus z (List.mem_of_mem_drop hz)
  obtain ⟨P, lv, lu, hP, hV, hlv, hU, hlu⟩ := tops_a hn hds hvs
  have hb2 := fun h => tops_b (n := vs.length) h hds hvs
  simp only [getD_drop] at hU hb2
  obtain ⟨ad, rfl, _⟩ := hv.u ((vs.length : Int) - 1) (by omega) (by omega)
  refine fn_ret tok Tryz.func145 (by kernel_rfl) rfl rfl ?_
  (conv => whnf)
  have hE1 : Ext w w.drew := Chg.drew _ _
  have hu1 := hu.up hE1
  have c1 := hu1.at_ o (vs.length : Int) (o + vs.length) (by omega) (by omega)
  have c2 := hu1.at_ o ((vs.length : Int) - 1) (o + (vs.length - 1)) (by omega) (by omega)
  refine draw_read tok mixed (by decide +kernel) ?_
  have b1 := getD_lt hus (o + vs.length)
  have b2 := getD_lt hus (o + (vs.length - 1))
  have b3 := getD_lt hvs (vs.length - 1)
  obtain ⟨top, et⟩ : ∃ t, t = us.getD (o + vs.length) 0 * 1000000000 + us.getD (o + (vs.length - 1)) 0 := ⟨_, rfl⟩
  have et2 : ((us.getD (o + vs.length) 0 : Nat) : Int) * 1000000000 + ((us.getD (o + (vs.length - 1)) 0 : Nat) : Int) = (top : Int) := by omega
  (repeat ((conv => whnf); first | refine numP_i64 (by omega) ?_ | refine numP_u64 (by omega) ?_ | refine numP_u8 (by omega) ?_ | refine Exists.intro _ (And.intro (fun _ h => (congrArg (fun w => World.cell? w _) h).trans ‹_›) ?_) | refine And.intro (by omega) (Exists.intro _ (And.intro rfl ?_)) | refine And.intro (by omega) ?_)); (conv => whnf)
  rw [et2]
  rintro _ rfl
  rw [← et] at hU hb2
  have hE2 : Ext w w.drew.drew := hE1.trans (Chg.drew _ _)
  have hu2 := hu.up hE2
  have c3 := (hv.ext hE2).u_ ((vs.length : Int) - 1) (vs.length - 1) (by omega) (by omega)
  (conv => whnf)
  refine draw_read tok mixed (by decide +kernel) ?_
  have hv1p : vs.getD (vs.length - 1) 0 ≠ 0 := htop
  generalize hv1g : vs.getD (vs.length - 1) 0 = v1 at *
  have eq0 := tdivN top v1
  have er0 := tmodN top v1
  have hq0 : top / v1 ≤ top := Nat.div_le_self _ _
  have hest := est_start (U := lowB (us.drop o) (vs.length + 1)) (V := lowB vs vs.length) (top := top) (v1 := v1) (P := P) (by omega) hP (by omega) (by rw [Nat.add_mul, Nat.one_mul]; omega)
  generalize top / v1 = q0 at *
  generalize top % v1 = r0 at *
  (repeat ((conv => whnf); first | refine numP_i64 (by omega) ?_ | refine numP_u64 (by omega) ?_ | refine numP_u8 (by omega) ?_ | refine Exists.intro _ (And.intro (fun _ h => (congrArg (fun w => World.cell? w _) h).trans ‹_›) ?_) | refine And.intro (by omega) (Exists.intro _ (And.intro rfl ?_)) | refine And.intro (by omega) ?_)); (conv => whnf)
  rw [eq0, er0]
  rintro _ rfl
  (conv => whnf)
  have hVp : 0 < lowB vs vs.length := by
    rcases Nat.eq_zero_or_pos (lowB vs vs.length) with h | h
    · rw [h] at hlt; omega
    · exact h
  refine loop_cut tok 0 [7, 8] [0, 1, 5] [7, 8] (fun x w' => ∃ q r : Nat, x = [.int .u64 q, .int .u64 r] ∧ Est top v1 (lowB (us.drop o) (vs.length + 1) / lowB vs vs.length) q r ∧ Ext w w') (fun x w => match x with | [.int _ q, _] => q.toNat | _ => 0)
    (fun x w' => ∃ q r : Nat, x = [.int .u64 q, .int .u64 r] ∧ q < 1000000000 ∧ lowB (us.drop o) (vs.length + 1) / lowB vs vs.length ≤ q ∧ q ≤ lowB (us.drop o) (vs.length + 1) / lowB vs vs.length + 1 ∧ Ext w w') ?_
  (conv => whnf)
  refine ⟨?_, ?_, ?_⟩
  · (conv => whnf)
    exact ⟨q0, r0, rfl, hest, hE2⟩
  · clear hest eq0 er0 hq0
    rintro _ w1 ⟨q, r, rfl, hest, hE⟩
    have hE3 : Ext w w1.drew := hE.trans (Chg.drew _ _)
    have c4 := (hv.ext hE3).u_ ((vs.length : Int) - 1) (vs.length - 1) (by omega) (by omega)
    rw [hv1g] at c4
    have hqv : q * v1 + r = top := hest.eq.symm
    have hrt : r ≤ top := by omega
    have hqle : q ≤ top := by
      have := Nat.le_mul_of_pos_right q (show 0 < v1 by omega)
      omega
    generalize hqt : lowB (us.drop o) (vs.length + 1) / lowB vs vs.length = qt at *
    by_cases hn1 : 1 < vs.length
    · obtain ⟨P2, lv2, lu2, hP2, hV2, hlv2, hU2, hlu2⟩ := hb2 hn1
      have c5 := (hv.ext hE3).u_ ((vs.length : Int) - 2) (vs.length - 2) (by omega) (by omega)
      have c6 := (hu.up hE3).at_ o ((vs.length : Int) - 2) (o + (vs.length - 2)) (by omega) (by omega)
      have b5 := getD_lt hvs (vs.length - 2)
      have b6 := getD_lt hus (o + (vs.length - 2))
      generalize vs.getD (vs.length - 2) 0 = v2 at *
      generalize us.getD (o + (vs.length - 2)) 0 = u2 at *
      have hm : q < 1000000000 → q * v2 ≤ 999999999 * 999999999 := fun h => Nat.mul_le_mul (by omega) (by omega)
      have hmI : ((q * v2 : Nat) : Int) = (q : Int) * (v2 : Int) := Int.natCast_mul q v2
      (conv => whnf)
      refine draw_read tok mixed (by decide +kernel) ?_
      (repeat ((conv => whnf); first | refine numP_i64 (by omega) ?_ | refine numP_u64 (by omega) ?_ | refine numP_u8 (by omega) ?_ | refine Exists.intro _ (And.intro (fun _ h => (congrArg (fun w => World.cell? w _) h).trans ‹_›) ?_) | refine And.intro (by omega) (Exists.intro _ (And.intro rfl ?_)) | refine And.intro (by omega) ?_)); (conv => whnf)
      refine condP_dec (fun h1 => ?_) (fun h1 => ?_)
      · have hq : qt < q := by rw [← hqt]; exact est_big (hqt ▸ hest) hlt (by omega)
        (repeat ((conv => whnf); first | refine numP_i64 (by omega) ?_ | refine numP_u64 (by omega) ?_ | refine numP_u8 (by omega) ?_ | refine Exists.intro _ (And.intro (fun _ h => (congrArg (fun w => World.cell? w _) h).trans ‹_›) ?_) | refine And.intro (by omega) (Exists.intro _ (And.intro rfl ?_)) | refine And.intro (by omega) ?_)); (conv => whnf)
        rintro _ rfl
        have hest2 := est_next hest hq
        have eqm : (q : Int) - 1 = ((q - 1 : Nat) : Int) := by omega
        have erm : (r : Int) + (v1 : Int) = ((r + v1 : Nat) : Int) := by omega
        have hqv2 : (q - 1) * v1 + (r + v1) = top := hest2.eq.symm
        (repeat ((conv => whnf); first | refine numP_i64 (by omega) ?_ | refine numP_u64 (by omega) ?_ | refine numP_u8 (by omega) ?_ | refine Exists.intro _ (And.intro ‹_› ?_) | refine Exists.intro _ (And.intro rfl ?_) | refine And.intro (by omega) (Exists.intro _ (And.intro rfl ?_)) | refine And.intro (by omega) ?_)); (conv => whnf)
        rw [eqm]
        (repeat ((conv => whnf); first | refine numP_i64 (by omega) ?_ | refine numP_u64 (by omega) ?_ | refine numP_u8 (by omega) ?_ | refine Exists.intro _ (And.intro ‹_› ?_) | refine Exists.intro _ (And.intro rfl ?_) | refine And.intro (by omega) (Exists.intro _ (And.intro rfl ?_)) | refine And.intro (by omega) ?_)); (conv => whnf)
        rw [erm]
        refine condP_dec (fun h3 => ?_) (fun h3 => ?_)
        · (conv => whnf)
          refine condP_dec (fun h4 => ?_) (fun h4 => ?_)
          · (conv => whnf)
            refine ⟨⟨rfl, rfl⟩, q - 1, r + v1, rfl, by omega, by omega, ?_, hE3⟩
            have := est_end2 (q := q - 1) (rest := r + v1) (P := P) (lv := lv) (hqt ▸ hest2) (by omega) hV (by omega) hVp (by omega) (by omega)
            omega
          · (conv => whnf)
            exact ⟨⟨rfl, rfl⟩, ⟨q - 1, r + v1, rfl, hest2, hE3⟩, by simp; omega⟩
        · (conv => whnf)
          exact ⟨⟨rfl, rfl⟩, ⟨q - 1, r + v1, rfl, hest2, hE3⟩, by simp; omega⟩
      · have hm := hm (by omega)
        (repeat ((conv => whnf); first | refine numP_i64 (by omega) ?_ | refine numP_u64 (by omega) ?_ | refine numP_u8 (by omega) ?_ | refine Exists.intro _ (And.intro (fun _ h => (congrArg (fun w => World.cell? w _) h).trans ‹_›) ?_) | refine And.intro (by omega) (Exists.intro _ (And.intro rfl ?_)) | refine And.intro (by omega) ?_)); (conv => whnf)
        refine condP_yes (by omega) ?_
        (repeat ((conv => whnf); first | refine numP_i64 (by omega) ?_ | refine numP_u64 (by omega) ?_ | refine numP_u8 (by omega) ?_ | refine Exists.intro _ (And.intro (fun _ h => (congrArg (fun w => World.cell? w _) h).trans ‹_›) ?_) | refine And.intro (by omega) (Exists.intro _ (And.intro rfl ?_)) | refine And.intro (by omega) ?_)); (conv => whnf)
        refine condP_dec (fun h2 => ?_) (fun h2 => ?_)
        · (repeat ((conv => whnf); first | refine numP_i64 (by omega) ?_ | refine numP_u64 (by omega) ?_ | refine numP_u8 (by omega) ?_ | refine Exists.intro _ (And.intro (fun _ h => (congrArg (fun w => World.cell? w _) h).trans ‹_›) ?_) | refine And.intro (by omega) (Exists.intro _ (And.intro rfl ?_)) | refine And.intro (by omega) ?_)); (conv => whnf)
          rintro _ rfl
          (conv => whnf)
          refine condP_dec (fun h5 => ?_) (fun h5 => ?_)
          · have hq : qt < q := by
              rw [← hqt]
              exact est_two (v2 := v2) (u2 := u2) (hqt ▸ hest) hP2 (by omega) (by rw [Nat.add_mul _ 1, Nat.one_mul]; omega) (by omega)
            have hest2 := est_next hest hq
            have eqm : (q : Int) - 1 = ((q - 1 : Nat) : Int) := by omega
            have erm : (r : Int) + (v1 : Int) = ((r + v1 : Nat) : Int) := by omega
            have hqv2 : (q - 1) * v1 + (r + v1) = top := hest2.eq.symm
            (repeat ((conv => whnf); first | refine numP_i64 (by omega) ?_ | refine numP_u64 (by omega) ?_ | refine numP_u8 (by omega) ?_ | refine Exists.intro _ (And.intro ‹_› ?_) | refine Exists.intro _ (And.intro rfl ?_) | refine And.intro (by omega) (Exists.intro _ (And.intro rfl ?_)) | refine And.intro (by omega) ?_)); (conv => whnf)
            rw [eqm]
            (repeat ((conv => whnf); first | refine numP_i64 (by omega) ?_ | refine numP_u64 (by omega) ?_ | refine numP_u8 (by omega) ?_ | refine Exists.intro _ (And.intro ‹_› ?_) | refine Exists.intro _ (And.intro rfl ?_) | refine And.intro (by omega) (Exists.intro _ (And.intro rfl ?_)) | refine And.intro (by omega) ?_)); (conv => whnf)
            rw [erm]
            refine condP_dec (fun h3 => ?_) (fun h3 => ?_)
            · (conv => whnf)
              refine condP_dec (fun h4 => ?_) (fun h4 => ?_)
              · (conv => whnf)
                refine ⟨⟨rfl, rfl⟩, q - 1, r + v1, rfl, by omega, by omega, ?_, hE3⟩
                have := est_end2 (q := q - 1) (rest := r + v1) (P := P) (lv := lv) (hqt ▸ hest2) (by omega) hV (by omega) hVp (by omega) (by omega)
                omega
              · (conv => whnf)
                exact ⟨⟨rfl, rfl⟩, ⟨q - 1, r + v1, rfl, hest2, hE3⟩, by simp; omega⟩
            · (conv => whnf)
              exact ⟨⟨rfl, rfl⟩, ⟨q - 1, r + v1, rfl, hest2, hE3⟩, by simp; omega⟩
          · (repeat ((conv => whnf); first | refine numP_i64 (by omega) ?_ | refine numP_u64 (by omega) ?_ | refine numP_u8 (by omega) ?_ | refine Exists.intro _ (And.intro ‹_› ?_) | refine Exists.intro _ (And.intro rfl ?_) | refine And.intro (by omega) (Exists.intro _ (And.intro rfl ?_)) | refine And.intro (by omega) ?_)); (conv => whnf)
            refine ⟨⟨rfl, rfl⟩, q, r, rfl, by omega, hest.le, ?_, hE3⟩
            rw [← hqt]
            exact est_end3 (u2 := u2) (hqt ▸ hest) (by omega) hV2 (by omega) (by omega) hP2 (by omega) (by omega)
        · (repeat ((conv => whnf); first | refine numP_i64 (by omega) ?_ | refine numP_u64 (by omega) ?_ | refine numP_u8 (by omega) ?_ | refine Exists.intro _ (And.intro (fun _ h => (congrArg (fun w => World.cell? w _) h).trans ‹_›) ?_) | refine And.intro (by omega) (Exists.intro _ (And.intro rfl ?_)) | refine And.intro (by omega) ?_)); (conv => whnf)
          rintro _ rfl
          (repeat ((conv => whnf); first | refine numP_i64 (by omega) ?_ | refine numP_u64 (by omega) ?_ | refine numP_u8 (by omega) ?_ | refine Exists.intro _ (And.intro ‹_› ?_) | refine Exists.intro _ (And.intro rfl ?_) | refine And.intro (by omega) (Exists.intro _ (And.intro rfl ?_)) | refine And.intro (by omega) ?_)); (conv => whnf)
          refine ⟨⟨rfl, rfl⟩, q, r, rfl, by omega, hest.le, ?_, hE3⟩
          rw [← hqt]
          exact est_end2 (P := P) (lv := lv) (hqt ▸ hest) (by omega) hV (by omega) hVp (by omega) (by omega)
    · (conv => whnf)
      refine draw_read tok mixed (by decide +kernel) ?_
      (repeat ((conv => whnf); first | refine numP_i64 (by omega) ?_ | refine numP_u64 (by omega) ?_ | refine numP_u8 (by omega) ?_ | refine Exists.intro _ (And.intro (fun _ h => (congrArg (fun w => World.cell? w _) h).trans ‹_›) ?_) | refine And.intro (by omega) (Exists.intro _ (And.intro rfl ?_)) | refine And.intro (by omega) ?_)); (conv => whnf)
      refine condP_dec (fun h1 => ?_) (fun h1 => ?_)
      · have hq : qt < q := by rw [← hqt]; exact est_big (hqt ▸ hest) hlt (by omega)
        (repeat ((conv => whnf); first | refine numP_i64 (by omega) ?_ | refine numP_u64 (by omega) ?_ | refine numP_u8 (by omega) ?_ | refine Exists.intro _ (And.intro (fun _ h => (congrArg (fun w => World.cell? w _) h).trans ‹_›) ?_) | refine And.intro (by omega) (Exists.intro _ (And.intro rfl ?_)) | refine And.intro (by omega) ?_)); (conv => whnf)
        rintro _ rfl
        have hest2 := est_next hest hq
        have eqm : (q : Int) - 1 = ((q - 1 : Nat) : Int) := by omega
        have erm : (r : Int) + (v1 : Int) = ((r + v1 : Nat) : Int) := by omega
        have hqv2 : (q - 1) * v1 + (r + v1) = top := hest2.eq.symm
        (repeat ((conv => whnf); first | refine numP_i64 (by omega) ?_ | refine numP_u64 (by omega) ?_ | refine numP_u8 (by omega) ?_ | refine Exists.intro _ (And.intro ‹_› ?_) | refine Exists.intro _ (And.intro rfl ?_) | refine And.intro (by omega) (Exists.intro _ (And.intro rfl ?_)) | refine And.intro (by omega) ?_)); (conv => whnf)
        rw [eqm]
        (repeat ((conv => whnf); first | refine numP_i64 (by omega) ?_ | refine numP_u64 (by omega) ?_ | refine numP_u8 (by omega) ?_ | refine Exists.intro _ (And.intro ‹_› ?_) | refine Exists.intro _ (And.intro rfl ?_) | refine And.intro (by omega) (Exists.intro _ (And.intro rfl ?_)) | refine And.intro (by omega) ?_)); (conv => whnf)
        rw [erm]
        refine condP_dec (fun h3 => ?_) (fun h3 => ?_)
        · (conv => whnf)
          refine condP_dec (fun h4 => ?_) (fun h4 => ?_)
          · (conv => whnf)
            refine ⟨⟨rfl, rfl⟩, q - 1, r + v1, rfl, by omega, by omega, ?_, hE3⟩
            have := est_end2 (q := q - 1) (rest := r + v1) (P := P) (lv := lv) (hqt ▸ hest2) (by omega) hV (by omega) hVp (by omega) (by omega)
            omega
          · (conv => whnf)
            exact ⟨⟨rfl, rfl⟩, ⟨q - 1, r + v1, rfl, hest2, hE3⟩, by simp; omega⟩
        · (conv => whnf)
          exact ⟨⟨rfl, rfl⟩, ⟨q - 1, r + v1, rfl, hest2, hE3⟩, by simp; omega⟩
      · (repeat ((conv => whnf); first | refine numP_i64 (by omega) ?_ | refine numP_u64 (by omega) ?_ | refine numP_u8 (by omega) ?_ | refine Exists.intro _ (And.intro (fun _ h => (congrArg (fun w => World.cell? w _) h).trans ‹_›) ?_) | refine And.intro (by omega) (Exists.intro _ (And.intro rfl ?_)) | refine And.intro (by omega) ?_)); (conv => whnf)
        refine condP_no (by omega) ?_
        (repeat ((conv => whnf); first | refine numP_i64 (by omega) ?_ | refine numP_u64 (by omega) ?_ | refine numP_u8 (by omega) ?_ | refine Exists.intro _ (And.intro (fun _ h => (congrArg (fun w => World.cell? w _) h).trans ‹_›) ?_) | refine And.intro (by omega) (Exists.intro _ (And.intro rfl ?_)) | refine And.intro (by omega) ?_)); (conv => whnf)
        rintro _ rfl
        (repeat ((conv => whnf); first | refine numP_i64 (by omega) ?_ | refine numP_u64 (by omega) ?_ | refine numP_u8 (by omega) ?_ | refine Exists.intro _ (And.intro ‹_› ?_) | refine Exists.intro _ (And.intro rfl ?_) | refine And.intro (by omega) (Exists.intro _ (And.intro rfl ?_)) | refine And.intro (by omega) ?_)); (conv => whnf)
        refine ⟨⟨rfl, rfl⟩, q, r, rfl, by omega, hest.le, ?_, hE3⟩
        have hl1 : vs.length = 1 := by omega
        have ht := tops_1 (us.drop o) vs
        simp only [getD_drop] at ht
        rw [hl1] at hv1g et
        rw [← hqt]
        exact est_end1 (hqt ▸ hest) (by rw [hl1, ht.2]; exact et.symm) (by rw [hl1, ht.1]; exact hv1g) (by omega)
  clear hest eq0 er0 hq0 q0 r0 c1 c2 c3 hu1 hE1 hE2 hb2 et et2 b1 b2 hu2
  clear hU hV htop hv1p b3 hv1g
  rintro _ w1 ⟨q, r, rfl, hq, hql, hqr, hE⟩
  have hvn : lowB vs (vs.length + 1) = lowB vs vs.length := by
    rw [lowB, List.getD_eq_getElem?_getD, List.getElem?_eq_none (by omega), Option.getD_none, Nat.mul_zero, Nat.add_zero]
  (repeat ((conv => whnf); first | refine numP_i64 (by omega) ?_ | refine numP_u64 (by omega) ?_ | refine numP_u8 (by omega) ?_ | refine Exists.intro _ (And.intro ‹_› ?_) | refine Exists.intro _ (And.intro rfl ?_) | refine And.intro (by omega) (Exists.intro _ (And.intro rfl ?_)) | refine And.intro (by omega) ?_)); (conv => whnf)
  refine loop_cut tok 2 [9, 10, 88] [0, 1, 5, 7, 87] [9]
    (fun x w' => ∃ (b c i : Nat) (zs : List Nat), x = [.int .u64 b, .int .u64 c, .int .i64 i] ∧ i ≤ vs.length + 1 ∧ b ≤ 1 ∧ c < 1000000000 ∧ (i = vs.length + 1 → c = 0) ∧ Fresh kU 124 w0 w' (.slice (some ⟨g, 0, none⟩) N cc) zs ∧ zs.length = us.length ∧ (∀ z ∈ zs, z < 1000000000) ∧
      (∀ j, j < o ∨ o + i ≤ j → zs.getD j 0 = us.getD j 0) ∧ lowB (zs.drop o) i + q * lowB vs i = lowB (us.drop o) i + 1000000000 ^ i * (b + c) ∧ Chg (fun b => b = g) w w')
    (fun x w => match x with | [_, _, .int _ i] => vs.length + 1 - i.toNat | _ => 0)
    (fun x w' => ∃ (b : Nat) (zs : List Nat), x = [.int .u64 b] ∧ b ≤ 1 ∧ Fresh kU 124 w0 w' (.slice (some ⟨g, 0, none⟩) N cc) zs ∧ zs.length = us.length ∧ (∀ z ∈ zs, z < 1000000000) ∧
      (∀ j, j < o ∨ o + vs.length + 1 ≤ j → zs.getD j 0 = us.getD j 0) ∧ lowB (zs.drop o) (vs.length + 1) + q * lowB vs vs.length = lowB (us.drop o) (vs.length + 1) + 1000000000 ^ (vs.length + 1) * b ∧ Chg (fun b => b = g) w w') ?_
  (conv => whnf)
  refine ⟨?_, ?_, ?_⟩
  · (conv => whnf)
    exact ⟨0, 0, 0, us, rfl, by omega, by omega, by omega, fun _ => rfl, hu.up hE, rfl, hus, fun _ _ => rfl, by simp only [lowB, Nat.mul_zero], hE.mono fun _ _ h => h.elim⟩
  · clear hE w1
    rintro _ w1 ⟨b, cy, i, zs, rfl, hi, hb, hcy, hlast, hf, hlen, hzs, hoth, hval, hC⟩
    (conv => whnf)
    refine condP_dec (fun h1 => ?_) (fun h1 => ?_)
    · have cu1 := hf.at_ o (i : Int) (o + i) (by omega) (by omega)
      have cu2 := (hf.cell kU_one (j := o + i) (by omega) 0).2
      have eui : zs.getD (o + i) 0 = us.getD (o + i) 0 := hoth _ (by omega)
      have bui := getD_lt hzs (o + i)
      have bvi := getD_lt hvs i
      have hms := msub_step (P := 1000000000 ^ i) (vi := vs.getD i 0) (ui := zs.getD (o + i) 0) hval hb hcy hq bvi bui
      have hqvi : q * vs.getD i 0 ≤ 999999999 * 999999999 := Nat.mul_le_mul (by omega) (by omega)
      have hqI : (q : Int) * ((vs.getD i 0 : Nat) : Int) = ((q * vs.getD i 0 : Nat) : Int) := (Int.natCast_mul _ _).symm
      (repeat ((conv => whnf); first | refine numP_i64 (by omega) ?_ | refine numP_u64 (by omega) ?_ | refine numP_u8 (by omega) ?_ | refine Exists.intro _ (And.intro ‹_› ?_) | refine Exists.intro _ (And.intro rfl ?_) | refine And.intro (by omega) (Exists.intro _ (And.intro rfl ?_)) | refine And.intro (by omega) ?_)); (conv => whnf)
      refine condP_dec (fun h2 => ?_) (fun h2 => ?_)
      · have cv1 := (hv.chg hC (M := fun b => b = g) (fun b hb hm => hS (hm ▸ hb))).u_ (i : Int) i (by omega) (by omega)
        (repeat ((conv => whnf); first | refine numP_i64 (by omega) ?_ | refine numP_u64 (by omega) ?_ | refine numP_u8 (by omega) ?_ | refine Exists.intro _ (And.intro ‹_› ?_) | refine Exists.intro _ (And.intro rfl ?_) | refine And.intro (by omega) (Exists.intro _ (And.intro rfl ?_)) | refine And.intro (by omega) ?_)); (conv => whnf)
        rw [hqI]
        have ep : (cy : Int) + ((q * vs.getD i 0 : Nat) : Int) = ((cy + q * vs.getD i 0 : Nat) : Int) := (Int.natCast_add _ _).symm
        (repeat ((conv => whnf); first | refine numP_i64 (by omega) ?_ | refine numP_u64 (by omega) ?_ | refine numP_u8 (by omega) ?_ | refine Exists.intro _ (And.intro ‹_› ?_) | refine Exists.intro _ (And.intro rfl ?_) | refine And.intro (by omega) (Exists.intro _ (And.intro rfl ?_)) | refine And.intro (by omega) ?_)); (conv => whnf)
        rw [ep]
        generalize hp : cy + q * vs.getD i 0 = p at *
        (repeat ((conv => whnf); first | refine numP_i64 (by omega) ?_ | refine numP_u64 (by omega) ?_ | refine numP_u8 (by omega) ?_ | refine Exists.intro _ (And.intro ‹_› ?_) | refine Exists.intro _ (And.intro rfl ?_) | refine And.intro (by omega) (Exists.intro _ (And.intro rfl ?_)) | refine And.intro (by omega) ?_)); (conv => whnf)
        rw [tmodB]
        have ed : ((zs.getD (o + i) 0 : Nat) : Int) + 1000000000 - ((p % 1000000000 : Nat) : Int) - (b : Int) = ((zs.getD (o + i) 0 + 1000000000 - p % 1000000000 - b : Nat) : Int) := by omega
        (repeat ((conv => whnf); first | refine numP_i64 (by omega) ?_ | refine numP_u64 (by omega) ?_ | refine numP_u8 (by omega) ?_ | refine Exists.intro _ (And.intro ‹_› ?_) | refine Exists.intro _ (And.intro rfl ?_) | refine And.intro (by omega) (Exists.intro _ (And.intro rfl ?_)) | refine And.intro (by omega) ?_)); (conv => whnf)
        rw [ed]
        generalize hd : zs.getD (o + i) 0 + 1000000000 - p % 1000000000 - b = d at *
        rw [tmodB, tdivB]
        (repeat ((conv => whnf); first | refine numP_i64 (by omega) ?_ | refine numP_u64 (by omega) ?_ | refine numP_u8 (by omega) ?_ | refine Exists.intro _ (And.intro ‹_› ?_) | refine Exists.intro _ (And.intro rfl ?_) | refine And.intro (by omega) (Exists.intro _ (And.intro rfl ?_)) | refine And.intro (by omega) ?_)); (conv => whnf)
        rw [tdivB]
        (repeat ((conv => whnf); first | refine numP_i64 (by omega) ?_ | refine numP_u64 (by omega) ?_ | refine numP_u8 (by omega) ?_ | refine Exists.intro _ (And.intro ‹_› ?_) | refine Exists.intro _ (And.intro rfl ?_) | refine And.intro (by omega) (Exists.intro _ (And.intro rfl ?_)) | refine And.intro (by omega) ?_)); (conv => whnf)
        refine ⟨rfl, trivial, ⟨_, cu1, ?_⟩, fun w2 hw2 => ?_⟩
        · rw [addr_add, Nat.mul_one]; exact cu2
        rw [addr_add, Nat.mul_one, Int.toNat_natCast] at hw2
        have hf2 := hf.set kU_one (j := o + i) (by omega) (d % 1000000000) hw2
        have hC2 := hC.trans (hw2.chg (fun b => b = g) rfl)
        have e1d : (1 : Int) - ((d / 1000000000 : Nat) : Int) = ((1 - d / 1000000000 : Nat) : Int) := by omega
        (repeat ((conv => whnf); first | refine numP_i64 (by omega) ?_ | refine numP_u64 (by omega) ?_ | refine numP_u8 (by omega) ?_ | refine Exists.intro _ (And.intro ‹_› ?_) | refine Exists.intro _ (And.intro rfl ?_) | refine And.intro (by omega) (Exists.intro _ (And.intro rfl ?_)) | refine And.intro (by omega) ?_)); (conv => whnf)
        rw [e1d]
        refine ⟨⟨rfl, rfl⟩, ⟨_, _, i + 1, zs.set (o + i) (d % 1000000000), rfl, by omega, hms.2.1, hms.2.2, fun h => by omega, hf2, by rw [List.length_set]; exact hlen, set_all hzs (Nat.mod_lt _ (by decide)), fun j hj => ?_, ?_, hC2⟩, by simp; omega⟩
        · rw [getD_set_other _ _ (by omega)]; exact hoth j (by omega)
        · rw [low_set (by omega), lowB, lowB, getD_drop, Nat.pow_succ, ← eui]; exact hms.1
      · have hi2 : i = vs.length := by omega
        have ev0 : vs.getD i 0 = 0 := by rw [List.getD_eq_getElem?_getD, List.getElem?_eq_none (by omega)]; rfl
        rw [ev0, Nat.mul_zero, Nat.mul_zero, Nat.add_zero, Nat.add_zero] at hms
        have hp : cy = cy := rfl
        (repeat ((conv => whnf); first | refine numP_i64 (by omega) ?_ | refine numP_u64 (by omega) ?_ | refine numP_u8 (by omega) ?_ | refine Exists.intro _ (And.intro ‹_› ?_) | refine Exists.intro _ (And.intro rfl ?_) | refine And.intro (by omega) (Exists.intro _ (And.intro rfl ?_)) | refine And.intro (by omega) ?_)); (conv => whnf)
        rw [tmodB]
        have ed : ((zs.getD (o + i) 0 : Nat) : Int) + 1000000000 - ((cy % 1000000000 : Nat) : Int) - (b : Int) = ((zs.getD (o + i) 0 + 1000000000 - cy % 1000000000 - b : Nat) : Int) := by omega
        (repeat ((conv => whnf); first | refine numP_i64 (by omega) ?_ | refine numP_u64 (by omega) ?_ | refine numP_u8 (by omega) ?_ | refine Exists.intro _ (And.intro ‹_› ?_) | refine Exists.intro _ (And.intro rfl ?_) | refine And.intro (by omega) (Exists.intro _ (And.intro rfl ?_)) | refine And.intro (by omega) ?_)); (conv => whnf)
        rw [ed]
        generalize hd : zs.getD (o + i) 0 + 1000000000 - cy % 1000000000 - b = d at *
        rw [tmodB, tdivB]
        (repeat ((conv => whnf); first | refine numP_i64 (by omega) ?_ | refine numP_u64 (by omega) ?_ | refine numP_u8 (by omega) ?_ | refine Exists.intro _ (And.intro ‹_› ?_) | refine Exists.intro _ (And.intro rfl ?_) | refine And.intro (by omega) (Exists.intro _ (And.intro rfl ?_)) | refine And.intro (by omega) ?_)); (conv => whnf)
        rw [tdivB]
        (repeat ((conv => whnf); first | refine numP_i64 (by omega) ?_ | refine numP_u64 (by omega) ?_ | refine numP_u8 (by omega) ?_ | refine Exists.intro _ (And.intro ‹_› ?_) | refine Exists.intro _ (And.intro rfl ?_) | refine And.intro (by omega) (Exists.intro _ (And.intro rfl ?_)) | refine And.intro (by omega) ?_)); (conv => whnf)
        refine ⟨rfl, trivial, ⟨_, cu1, ?_⟩, fun w2 hw2 => ?_⟩
        · rw [addr_add, Nat.mul_one]; exact cu2
        rw [addr_add, Nat.mul_one, Int.toNat_natCast] at hw2
        have hf2 := hf.set kU_one (j := o + i) (by omega) (d % 1000000000) hw2
        have hC2 := hC.trans (hw2.chg (fun b => b = g) rfl)
        have e1d : (1 : Int) - ((d / 1000000000 : Nat) : Int) = ((1 - d / 1000000000 : Nat) : Int) := by omega
        (repeat ((conv => whnf); first | refine numP_i64 (by omega) ?_ | refine numP_u64 (by omega) ?_ | refine numP_u8 (by omega) ?_ | refine Exists.intro _ (And.intro ‹_› ?_) | refine Exists.intro _ (And.intro rfl ?_) | refine And.intro (by omega) (Exists.intro _ (And.intro rfl ?_)) | refine And.intro (by omega) ?_)); (conv => whnf)
        rw [e1d]
        refine ⟨⟨rfl, rfl⟩, ⟨_, _, i + 1, zs.set (o + i) (d % 1000000000), rfl, by omega, hms.2.1, hms.2.2, fun h => by omega, hf2, by rw [List.length_set]; exact hlen, set_all hzs (Nat.mod_lt _ (by decide)), fun j hj => ?_, ?_, hC2⟩, by simp; omega⟩
        · rw [getD_set_other _ _ (by omega)]; exact hoth j (by omega)
        · rw [low_set (by omega), lowB, lowB, getD_drop, Nat.pow_succ, ev0, Nat.mul_zero, ← eui]; exact hms.1
    · obtain rfl : i = vs.length + 1 := by omega
      rw [hlast rfl, Nat.add_zero, hvn] at hval
      (repeat ((conv => whnf); first | refine numP_i64 (by omega) ?_ | refine numP_u64 (by omega) ?_ | refine numP_u8 (by omega) ?_ | refine Exists.intro _ (And.intro ‹_› ?_) | refine Exists.intro _ (And.intro rfl ?_) | refine And.intro (by omega) (Exists.intro _ (And.intro rfl ?_)) | refine And.intro (by omega) ?_)); (conv => whnf)
      exact ⟨⟨rfl, rfl⟩, b, zs, rfl, hb, hf, hlen, hzs, fun j hj => hoth j (by omega), hval, hC⟩
  rintro _ w1 ⟨b, zs, rfl, hb, hf, hlen, hzs, hoth, hval, hC⟩
  (conv => whnf)
  refine condP_dec (fun h1 => ?_) (fun h1 => ?_)
  · (conv => whnf)
    obtain rfl : b = 0 := by omega
    have hval' : lowB (zs.drop o) (vs.length + 1) + q * lowB vs vs.length = lowB (us.drop o) (vs.length + 1) := by rw [hval, Nat.mul_zero]; rfl
    obtain ⟨e1, e2⟩ := msub_ok hval' hql hVp
    exact ⟨by rw [e1], zs, hf, hlen, hzs, hoth, e2, hC⟩
  · obtain rfl : b = 1 := by omega
    rw [Nat.mul_one] at hval
    clear hE
    (repeat ((conv => whnf); first | refine numP_i64 (by omega) ?_ | refine numP_u64 (by omega) ?_ | refine numP_u8 (by omega) ?_ | refine Exists.intro _ (And.intro ‹_› ?_) | refine Exists.intro _ (And.intro rfl ?_) | refine And.intro (by omega) (Exists.intro _ (And.intro rfl ?_)) | refine And.intro (by omega) ?_)); (conv => whnf)
    refine loop_cut tok 4 [10, 129] [0, 1, 5, 7, 128] []
      (fun x w' => ∃ (c i : Nat) (ys : List Nat), x = [.int .u64 c, .int .i64 i] ∧ i ≤ vs.length + 1 ∧ c ≤ 1 ∧ Fresh kU 124 w0 w' (.slice (some ⟨g, 0, none⟩) N cc) ys ∧ ys.length = us.length ∧ (∀ z ∈ ys, z < 1000000000) ∧
        (∀ j, j < o ∨ o + i ≤ j → ys.getD j 0 = zs.getD j 0) ∧ lowB (ys.drop o) i + 1000000000 ^ i * c = lowB (zs.drop o) i + lowB vs i ∧ Chg (fun b => b = g) w w')
      (fun x w => match x with | [_, .int _ i] => vs.length + 1 - i.toNat | _ => 0)
      (fun x w' => x = [] ∧ ∃ (c : Nat) (ys : List Nat), Fresh kU 124 w0 w' (.slice (some ⟨g, 0, none⟩) N cc) ys ∧ ys.length = us.length ∧ (∀ z ∈ ys, z < 1000000000) ∧
        (∀ j, j < o ∨ o + vs.length + 1 ≤ j → ys.getD j 0 = us.getD j 0) ∧ lowB (ys.drop o) (vs.length + 1) + 1000000000 ^ (vs.length + 1) * c = lowB (zs.drop o) (vs.length + 1) + lowB vs vs.length ∧ Chg (fun b => b = g) w w') ?_
    (conv => whnf)
    refine ⟨?_, ?_, ?_⟩
    · (conv => whnf)
      exact ⟨0, 0, zs, rfl, by omega, by omega, hf, hlen, hzs, fun _ _ => rfl, by simp only [lowB, Nat.mul_zero], hC⟩
    · clear hf hC w1
      rintro _ w1 ⟨cy, i, ys, rfl, hi, hcy, hf, hlen2, hys, hoth2, hval2, hC⟩
      (conv => whnf)
      refine condP_dec (fun h2 => ?_) (fun h2 => ?_)
      · have cu1 := hf.at_ o (i : Int) (o + i) (by omega) (by omega)
        have cu2 := (hf.cell kU_one (j := o + i) (by omega) 0).2
        have eui : ys.getD (o + i) 0 = zs.getD (o + i) 0 := hoth2 _ (by omega)
        have bui := getD_lt hys (o + i)
        have bvi := getD_lt hvs i
        have hms := madd_step (P := 1000000000 ^ i) (vi := vs.getD i 0) (ui := ys.getD (o + i) 0) hval2
        (repeat ((conv => whnf); first | refine numP_i64 (by omega) ?_ | refine numP_u64 (by omega) ?_ | refine numP_u8 (by omega) ?_ | refine Exists.intro _ (And.intro ‹_› ?_) | refine Exists.intro _ (And.intro rfl ?_) | refine And.intro (by omega) (Exists.intro _ (And.intro rfl ?_)) | refine And.intro (by omega) ?_)); (conv => whnf)
        refine condP_dec (fun h3 => ?_) (fun h3 => ?_)
        · have cv1 := (hv.chg hC (M := fun b => b = g) (fun b hb hm => hS (hm ▸ hb))).u_ (i : Int) i (by omega) (by omega)
          (repeat ((conv => whnf); first | refine numP_i64 (by omega) ?_ | refine numP_u64 (by omega) ?_ | refine numP_u8 (by omega) ?_ | refine Exists.intro _ (And.intro ‹_› ?_) | refine Exists.intro _ (And.intro rfl ?_) | refine And.intro (by omega) (Exists.intro _ (And.intro rfl ?_)) | refine And.intro (by omega) ?_)); (conv => whnf)
          have es : ((ys.getD (o + i) 0 : Nat) : Int) + (cy : Int) + ((vs.getD i 0 : Nat) : Int) = ((ys.getD (o + i) 0 + cy + vs.getD i 0 : Nat) : Int) := by omega
          rw [es]
          generalize hd : ys.getD (o + i) 0 + cy + vs.getD i 0 = d at *
          rw [tmodB]
          (repeat ((conv => whnf); first | refine numP_i64 (by omega) ?_ | refine numP_u64 (by omega) ?_ | refine numP_u8 (by omega) ?_ | refine Exists.intro _ (And.intro ‹_› ?_) | refine Exists.intro _ (And.intro rfl ?_) | refine And.intro (by omega) (Exists.intro _ (And.intro rfl ?_)) | refine And.intro (by omega) ?_)); (conv => whnf)
          rw [tdivB]
          (repeat ((conv => whnf); first | refine numP_i64 (by omega) ?_ | refine numP_u64 (by omega) ?_ | refine numP_u8 (by omega) ?_ | refine Exists.intro _ (And.intro ‹_› ?_) | refine Exists.intro _ (And.intro rfl ?_) | refine And.intro (by omega) (Exists.intro _ (And.intro rfl ?_)) | refine And.intro (by omega) ?_)); (conv => whnf)
          refine ⟨rfl, trivial, ⟨_, cu1, ?_⟩, fun w2 hw2 => ?_⟩
          · rw [addr_add, Nat.mul_one]; exact cu2
          rw [addr_add, Nat.mul_one, Int.toNat_natCast] at hw2
          have hf2 := hf.set kU_one (j := o + i) (by omega) (d % 1000000000) hw2
          have hC2 := hC.trans (hw2.chg (fun b => b = g) rfl)
          (repeat ((conv => whnf); first | refine numP_i64 (by omega) ?_ | refine numP_u64 (by omega) ?_ | refine numP_u8 (by omega) ?_ | refine Exists.intro _ (And.intro ‹_› ?_) | refine Exists.intro _ (And.intro rfl ?_) | refine And.intro (by omega) (Exists.intro _ (And.intro rfl ?_)) | refine And.intro (by omega) ?_)); (conv => whnf)
          refine ⟨⟨rfl, rfl⟩, ⟨_, i + 1, ys.set (o + i) (d % 1000000000), rfl, by omega, by omega, hf2, by rw [List.length_set]; exact hlen2, set_all hys (Nat.mod_lt _ (by decide)), fun j hj => ?_, ?_, hC2⟩, by simp; omega⟩
          · rw [getD_set_other _ _ (by omega)]; exact hoth2 j (by omega)
          · rw [low_set (by omega), lowB, lowB, getD_drop, Nat.pow_succ, ← eui]; exact hms
        · have ev0 : vs.getD i 0 = 0 := by rw [List.getD_eq_getElem?_getD, List.getElem?_eq_none (by omega)]; rfl
          have es : ((ys.getD (o + i) 0 : Nat) : Int) + (cy : Int) = ((ys.getD (o + i) 0 + cy + vs.getD i 0 : Nat) : Int) := by omega
          (repeat ((conv => whnf); first | refine numP_i64 (by omega) ?_ | refine numP_u64 (by omega) ?_ | refine numP_u8 (by omega) ?_ | refine Exists.intro _ (And.intro ‹_› ?_) | refine Exists.intro _ (And.intro rfl ?_) | refine And.intro (by omega) (Exists.intro _ (And.intro rfl ?_)) | refine And.intro (by omega) ?_)); (conv => whnf)
          rw [es]
          generalize hd : ys.getD (o + i) 0 + cy + vs.getD i 0 = d at *
          rw [tmodB]
          (repeat ((conv => whnf); first | refine numP_i64 (by omega) ?_ | refine numP_u64 (by omega) ?_ | refine numP_u8 (by omega) ?_ | refine Exists.intro _ (And.intro ‹_› ?_) | refine Exists.intro _ (And.intro rfl ?_) | refine And.intro (by omega) (Exists.intro _ (And.intro rfl ?_)) | refine And.intro (by omega) ?_)); (conv => whnf)
          rw [tdivB]
          (repeat ((conv => whnf); first | refine numP_i64 (by omega) ?_ | refine numP_u64 (by omega) ?_ | refine numP_u8 (by omega) ?_ | refine Exists.intro _ (And.intro ‹_› ?_) | refine Exists.intro _ (And.intro rfl ?_) | refine And.intro (by omega) (Exists.intro _ (And.intro rfl ?_)) | refine And.intro (by omega) ?_)); (conv => whnf)
          refine ⟨rfl, trivial, ⟨_, cu1, ?_⟩, fun w2 hw2 => ?_⟩
          · rw [addr_add, Nat.mul_one]; exact cu2
          rw [addr_add, Nat.mul_one, Int.toNat_natCast] at hw2
          have hf2 := hf.set kU_one (j := o + i) (by omega) (d % 1000000000) hw2
          have hC2 := hC.trans (hw2.chg (fun b => b = g) rfl)
          (repeat ((conv => whnf); first | refine numP_i64 (by omega) ?_ | refine numP_u64 (by omega) ?_ | refine numP_u8 (by omega) ?_ | refine Exists.intro _ (And.intro ‹_› ?_) | refine Exists.intro _ (And.intro rfl ?_) | refine And.intro (by omega) (Exists.intro _ (And.intro rfl ?_)) | refine And.intro (by omega) ?_)); (conv => whnf)
          refine ⟨⟨rfl, rfl⟩, ⟨_, i + 1, ys.set (o + i) (d % 1000000000), rfl, by omega, by omega, hf2, by rw [List.length_set]; exact hlen2, set_all hys (Nat.mod_lt _ (by decide)), fun j hj => ?_, ?_, hC2⟩, by simp; omega⟩
          · rw [getD_set_other _ _ (by omega)]; exact hoth2 j (by omega)
          · rw [low_set (by omega), lowB, lowB, getD_drop, Nat.pow_succ, ← eui]; exact hms
      · obtain rfl : i = vs.length + 1 := by omega
        rw [hvn] at hval2
        (repeat ((conv => whnf); first | refine numP_i64 (by omega) ?_ | refine numP_u64 (by omega) ?_ | refine numP_u8 (by omega) ?_ | refine Exists.intro _ (And.intro ‹_› ?_) | refine Exists.intro _ (And.intro rfl ?_) | refine And.intro (by omega) (Exists.intro _ (And.intro rfl ?_)) | refine And.intro (by omega) ?_)); (conv => whnf)
        exact ⟨⟨rfl, rfl⟩, rfl, cy, ys, hf, hlen2, hys, fun j hj => (hoth2 j (by omega)).trans (hoth j hj), hval2, hC⟩
    rintro _ w1 ⟨rfl, c, ys, hf2, hlen2, hys, hoth2, hval2, hC2⟩
    have hL1 := low_lt (fun z hz => hzs z (List.mem_of_mem_drop hz) : ∀ z ∈ zs.drop o, z < 1000000000) (vs.length + 1)
    have hL2 := low_lt (fun z hz => hys z (List.mem_of_mem_drop hz) : ∀ z ∈ ys.drop o, z < 1000000000) (vs.length + 1)
    have hVW := low_lt hvs (vs.length + 1)
    rw [hvn] at hVW
    obtain ⟨e1, e2⟩ := madd_ok hval hL1 hval2 hL2 (by omega) hqr hVp
    have hq1 : 1 ≤ q := by
      rcases Nat.eq_zero_or_pos q with h0 | h0
      · rw [h0, Nat.zero_mul, Nat.add_zero] at hval
        omega
      · exact h0
    have eqm : (q : Int) - 1 = ((q - 1 : Nat) : Int) := by omega
    (repeat ((conv => whnf); first | refine numP_i64 (by omega) ?_ | refine numP_u64 (by omega) ?_ | refine numP_u8 (by omega) ?_ | refine Exists.intro _ (And.intro ‹_› ?_) | refine Exists.intro _ (And.intro rfl ?_) | refine And.intro (by omega) (Exists.intro _ (And.intro rfl ?_)) | refine And.intro (by omega) ?_)); (conv => whnf)
    rw [eqm, e1]
    exact ⟨rfl, ys, hf2, hlen2, hys, hoth2, e2, hC2⟩
end Go.Proofs.YtfeegacmmfgjfaaGreatDoorX

/-!  Plain: the quotient and the rest. -/
set_option linter.unusedVariables false
namespace Go.Proofs.YtfeegacmmfgjfaaGreatDoorM
theorem valB_low (zs : List Nat) {k : Nat} (hk : k ≤ zs.length) : valB zs = lowB zs k + 1000000000 ^ k * valB (zs.drop k) := by
  rw [valB_split zs hk, lowB_take zs k hk]
theorem seg_val (zs : List Nat) {o k : Nat} (h : o + k ≤ zs.length) : valB zs = lowB zs o + 1000000000 ^ o * (lowB (zs.drop o) k + 1000000000 ^ k * valB (zs.drop (o + k))) := by
  rw [valB_low zs (k := o) (by omega), valB_low (zs.drop o) (k := k) (by rw [List.length_drop]; omega), List.drop_drop]
theorem drop_same {xs ys : List Nat} {k : Nat} (hl : xs.length = ys.length) (h : ∀ j, k ≤ j → xs.getD j 0 = ys.getD j 0) : xs.drop k = ys.drop k := by
  apply List.ext_getElem?
  intro j
  rw [List.getElem?_drop, List.getElem?_drop]
  have := h (k + j) (by omega)
  rw [List.getD_eq_getElem?_getD, List.getD_eq_getElem?_getD] at this
  by_cases hj : k + j < xs.length
  · rw [List.getElem?_eq_getElem hj, List.getElem?_eq_getElem (show k + j < ys.length by omega)] at this ⊢
    simpa using this
  · rw [List.getElem?_eq_none (by omega), List.getElem?_eq_none (by omega)]
theorem valB_set {zs : List Nat} {o x : Nat} (h : o < zs.length) : valB (zs.set o x) + 1000000000 ^ o * zs.getD o 0 = valB zs + 1000000000 ^ o * x := by
  have h1 := seg_val zs (o := o) (k := 1) (by omega)
  have h2 := seg_val (zs.set o x) (o := o) (k := 1) (by rw [List.length_set]; omega)
  have e1 : ∀ ys : List Nat, lowB (ys.drop o) 1 = ys.getD o 0 := fun ys => by rw [(tops_1 [] _).1, getD_drop, Nat.add_zero]
  have e2 : lowB (zs.set o x) o = lowB zs o := lowB_congr fun j hj => getD_set_other _ _ (by omega)
  have e3 : (zs.set o x).drop (o + 1) = zs.drop (o + 1) := drop_same (by rw [List.length_set]) fun j hj => getD_set_other _ _ (by omega)
  rw [e1] at h1 h2
  rw [getD_set_same _ _ h, e2, e3] at h2
  rw [h1, h2, Nat.mul_add, Nat.mul_add]
  omega
theorem div_pre {us : List Nat} {o n V : Nat} (ho : o + n + 1 ≤ us.length) (hlt : valB us < V * 1000000000 ^ (o + 1)) : lowB (us.drop o) (n + 1) < 1000000000 * V := by
  have h1 := seg_val us (o := o) (k := n + 1) (by omega)
  rw [Nat.mul_add] at h1
  have h2 : 1000000000 ^ o * lowB (us.drop o) (n + 1) < 1000000000 ^ o * (1000000000 * V) := by
    have e : V * 1000000000 ^ (o + 1) = 1000000000 ^ o * (1000000000 * V) := by rw [Nat.pow_succ]; ac_rfl
    rw [← e]; omega
  exact Nat.lt_of_mul_lt_mul_left h2
theorem div_step {us us' qs : List Nat} {o n V X d : Nat} (hus : ∀ z ∈ us, z < 1000000000) (hlen : us'.length = us.length) (ho : o + n + 1 ≤ us.length) (hoth : ∀ j, j < o ∨ o + n + 1 ≤ j → us'.getD j 0 = us.getD j 0)
    (hval : lowB (us'.drop o) (n + 1) = lowB (us.drop o) (n + 1) % V) (hd : d = lowB (us.drop o) (n + 1) / V) (hinv : valB us + valB qs * V = X) (hlt : valB us < V * 1000000000 ^ (o + 1)) (hV : 0 < V) (hVn : V ≤ 1000000000 ^ n) (hq0 : qs.getD o 0 = 0) (hql : o < qs.length) :
    valB us' + valB (qs.set o d) * V = X ∧ valB us' < V * 1000000000 ^ o := by
  have h1 := seg_val us (o := o) (k := n + 1) (by omega)
  have h2 := seg_val us' (o := o) (k := n + 1) (by omega)
  have e1 : lowB us' o = lowB us o := lowB_congr fun j hj => hoth j (.inl hj)
  have e2 : us'.drop (o + (n + 1)) = us.drop (o + (n + 1)) := drop_same hlen fun j hj => hoth j (.inr (by omega))
  rw [e1, e2, hval] at h2
  have h3 := valB_set (zs := qs) (x := d) hql
  rw [hq0, Nat.mul_zero, Nat.add_zero] at h3
  have h4 := Nat.mod_add_div (lowB (us.drop o) (n + 1)) V
  rw [← hd] at h4
  have h5 := Nat.mod_lt (lowB (us.drop o) (n + 1)) hV
  have hlow := low_lt hus o
  -- nothing lies above
  have hhigh : valB (us.drop (o + (n + 1))) = 0 := by
    rcases Nat.eq_zero_or_pos (valB (us.drop (o + (n + 1)))) with h | h
    · exact h
    · exfalso
      have g1 : 1000000000 ^ o * (1000000000 ^ (n + 1) * 1) ≤ 1000000000 ^ o * (1000000000 ^ (n + 1) * valB (us.drop (o + (n + 1)))) := Nat.mul_le_mul_left _ (Nat.mul_le_mul_left _ h)
      have g2 : V * 1000000000 ^ (o + 1) ≤ 1000000000 ^ n * 1000000000 ^ (o + 1) := Nat.mul_le_mul_right _ hVn
      have g3 : 1000000000 ^ n * 1000000000 ^ (o + 1) = 1000000000 ^ o * (1000000000 ^ (n + 1) * 1) := by rw [Nat.pow_succ, Nat.pow_succ]; ac_rfl
      rw [Nat.mul_add] at h1
      omega
  rw [hhigh, Nat.mul_zero, Nat.add_zero] at h1 h2
  generalize lowB (us.drop o) (n + 1) = U at *
  generalize U % V = r at *
  refine ⟨?_, ?_⟩
  · rw [h3, Nat.add_mul, h2, ← hinv, h1, ← h4, Nat.mul_add]
    have e : 1000000000 ^ o * d * V = 1000000000 ^ o * (V * d) := by ac_rfl
    omega
  · rw [h2]
    have g1 : 1000000000 ^ o * (r + 1) ≤ 1000000000 ^ o * V := Nat.mul_le_mul_left _ h5
    rw [Nat.mul_add, Nat.mul_one] at g1
    rw [Nat.mul_comm V]
    omega
/-! ## The factor that makes the divisor's top block great -/
theorem top_ne {y : Nat} (hy : y ≠ 0) : (blk y).getD ((blk y).length - 1) 0 ≠ 0 := by
  obtain ⟨h1, h2⟩ := blk_high hy
  rw [blk_get]
  have h3 : y / 1000000000 ^ ((blk y).length - 1) < 1000000000 := by
    have h4 := (blk_top hy).2
    rw [Nat.div_lt_iff_lt_mul (Nat.pow_pos (by decide)), Nat.mul_comm, ← Nat.pow_succ]
    have h5 := valB_lt (blk_all y)
    rw [valB_blk] at h5
    rwa [show ((blk y).length - 1).succ = (blk y).length by omega]
  rw [Nat.mod_eq_of_lt h3]
  omega
theorem scale_len {y k : Nat} (hy : y ≠ 0) (hk : k = 1000000000 / ((blk y).getD ((blk y).length - 1) 0 + 1)) : 0 < k ∧ k < 1000000000 ∧ (blk (y * k)).length = (blk y).length := by
  obtain ⟨h1, h2⟩ := blk_top hy
  have ht := top_ne hy
  have hb := getD_lt (blk_all y) ((blk y).length - 1)
  have hval := top_low (xs := blk y) (n := (blk y).length - 1)
  rw [show (blk y).length - 1 + 1 = (blk y).length by omega, lowB_all _ _ (Nat.le_refl _), valB_blk] at hval
  have hlow := low_lt (blk_all y) ((blk y).length - 1)
  generalize (blk y).getD ((blk y).length - 1) 0 = t at *
  have hk0 : 0 < k := by rw [hk]; exact Nat.div_pos (by omega) (by omega)
  have hk1 : k * (t + 1) ≤ 1000000000 := by rw [hk]; exact Nat.div_mul_le_self _ _
  have hk2 : k < 1000000000 := by
    have : k * 2 ≤ k * (t + 1) := Nat.mul_le_mul_left _ (by omega)
    omega
  refine ⟨hk0, hk2, Nat.le_antisymm (blk_len_le ?_) ?_⟩
  · have g1 : y * k < (t + 1) * 1000000000 ^ ((blk y).length - 1) * k := Nat.mul_lt_mul_of_pos_right (by rw [Nat.add_mul, Nat.one_mul]; omega) hk0
    have g2 : (t + 1) * 1000000000 ^ ((blk y).length - 1) * k ≤ 1000000000 * 1000000000 ^ ((blk y).length - 1) := by
      rw [Nat.mul_right_comm, Nat.mul_comm (t + 1)]
      exact Nat.mul_le_mul_right _ hk1
    have g3 : 1000000000 * 1000000000 ^ ((blk y).length - 1) = 1000000000 ^ (blk y).length := by
      rw [Nat.mul_comm, ← Nat.pow_succ, show ((blk y).length - 1).succ = (blk y).length by omega]
    omega
  · rcases Nat.lt_or_ge (blk (y * k)).length (blk y).length with h | h
    · have := blk_len_lt h
      have g : y * 1 ≤ y * k := Nat.mul_le_mul_left _ hk0
      omega
    · exact h
theorem scaled_len {x k : Nat} (hk : k < 1000000000) : (blk (x * k)).length ≤ (blk x).length + 1 := by
  refine blk_len_le ?_
  have h := valB_lt (blk_all x)
  rw [valB_blk] at h
  rw [Nat.pow_succ]
  rcases Nat.eq_zero_or_pos k with rfl | h0
  · rw [Nat.mul_zero]; exact Nat.mul_pos (Nat.pow_pos (by decide)) (by decide)
  · exact Nat.lt_of_lt_of_le (Nat.mul_lt_mul_of_pos_right h h0) (Nat.mul_le_mul_left _ (by omega))
theorem div_start {x y k : Nat} (hy : y ≠ 0) (hk : 0 < k) (hl : (blk y).length ≤ (blk x).length) : x * k < y * k * 1000000000 ^ ((blk x).length + 1 - (blk y).length) := by
  obtain ⟨h1, h2⟩ := blk_top hy
  have h := valB_lt (blk_all x)
  rw [valB_blk] at h
  have e : y * k * 1000000000 ^ ((blk x).length + 1 - (blk y).length) = y * 1000000000 ^ ((blk x).length + 1 - (blk y).length) * k := by ac_rfl
  rw [e]
  refine Nat.mul_lt_mul_of_pos_right (Nat.lt_of_lt_of_le h ?_) hk
  have g : 1000000000 ^ ((blk y).length - 1) * 1000000000 ^ ((blk x).length + 1 - (blk y).length) ≤ y * 1000000000 ^ ((blk x).length + 1 - (blk y).length) := Nat.mul_le_mul_right _ h1
  rwa [← Nat.pow_add, show (blk y).length - 1 + ((blk x).length + 1 - (blk y).length) = (blk x).length by omega] at g
theorem div_end {q r x y k : Nat} (h : r + q * (y * k) = x * k) (hr : r < y * k) (hk : 0 < k) : q = x / y ∧ r / k = x % y := by
  have hy : 0 < y := Nat.pos_of_mul_pos_right (Nat.lt_of_le_of_lt (Nat.zero_le _) hr)
  have h1 : (x * k) / (y * k) = q := by
    rw [← h, Nat.add_mul_div_right _ _ (by omega), Nat.div_eq_of_lt hr, Nat.zero_add]
  have h2 : (x * k) % (y * k) = r := by
    rw [← h, Nat.add_mul_mod_self_right, Nat.mod_eq_of_lt hr]
  rw [Nat.mul_div_mul_right _ _ hk] at h1
  rw [Nat.mul_mod_mul_right] at h2
  exact ⟨h1.symm, by rw [← h2, Nat.mul_div_cancel _ hk]⟩
/-- One block of the rest, divided by k. -/
theorem rest_step {t T a k : Nat} (hk : 0 < k) (hT : T = a + 1000000000 * t) : T / k = (t % k * 1000000000 + a) / k + 1000000000 * (t / k) ∧ T % k = (t % k * 1000000000 + a) % k := by
  have h := Nat.mod_add_div t k
  have e : T = (t % k * 1000000000 + a) + k * (1000000000 * (t / k)) := by
    have e2 : k * (1000000000 * (t / k)) = 1000000000 * (k * (t / k)) := by ac_rfl
    rw [hT, e2]
    omega
  rw [e]
  exact ⟨Nat.add_mul_div_left _ _ hk, Nat.add_mul_mod_self_left _ _ _⟩
theorem valB_drop {zs : List Nat} {j : Nat} (h : j < zs.length) : valB (zs.drop j) = zs.getD j 0 + 1000000000 * valB (zs.drop (j + 1)) := by
  rw [List.drop_eq_getElem_cons h, valB, List.getD_eq_getElem?_getD, List.getElem?_eq_getElem h]
  rfl
end Go.Proofs.YtfeegacmmfgjfaaGreatDoorM

/-!  Package nat: division. -/
set_option linter.unusedVariables false
set_option maxRecDepth 10000
namespace Go.Proofs.YtfeegacmmfgjfaaGreatDoorX
open Go Go.RowKit Go.Proofs Go.Proofs.YtfeegacmmfgjfaaGreatDoorM

theorem nat_divide (S S' : Nat → Prop) (A A' : Option Addr) (n n' c c' x y : Nat) (w : World) (hx : SlR kU S w (.slice A n c) (blk x)) (hy : SlR kU S' w (.slice A' n' c') (blk y)) (hl : (blk x).length ≤ 900 ∧ (blk y).length ≤ 900) (hy0 : y ≠ 0) :
    Ret Tryz.prog 116 #[.slice A n c, .slice A' n' c'] w fun v w' => ∃ vq vr, v = .tuple #[vq, vr] ∧ SlR kU (Old w') w' vq (blk (x / y)) ∧ SlR kU (Old w') w' vr (blk (x % y)) ∧ Ext w w' := by
  obtain ⟨rfl, hx1, hx2⟩ := hx.len
  obtain ⟨rfl, hy1, hy2⟩ := hy.len
  refine fn_ret tok Tryz.func116 (by kernel_rfl) rfl rfl ?_
  (conv => whnf)
  refine (nat_compare _ _ _ _ _ _ _ _ _ _ _ hx hy).call ?_
  rintro _ w1 ⟨rfl, hE1⟩
  (conv => whnf)
  refine condP_dec (fun h => ?_) (fun h => ?_)
  · have hxy : x < y := by
      rcases Nat.lt_or_ge x y with h1 | h1
      · exact h1
      · exfalso
        unfold cmpN at h
        rw [if_neg (by omega)] at h
        split at h <;> omega
    (conv => whnf)
    refine ⟨_, _, rfl, ?_, ?_, hE1⟩
    · rw [Nat.div_eq_of_lt hxy]; exact SlR.nil _ _ _
    · rw [Nat.mod_eq_of_lt hxy]; exact (hx.ext hE1).old
  have hxy : y ≤ x := by
    rcases Nat.lt_or_ge x y with h1 | h1
    · exact absurd (by rw [cmpN_lt h1]; omega) h
    · exact h1
  have hly := (blk_top hy0).2
  have hlxy : (blk y).length ≤ (blk x).length := by
    rcases Nat.lt_or_ge (blk x).length (blk y).length with h1 | h1
    · have := blk_len_lt h1; omega
    · exact h1
  have htp := top_ne hy0
  obtain ⟨k, hk⟩ : ∃ k, k = 1000000000 / ((blk y).getD ((blk y).length - 1) 0 + 1) := ⟨_, rfl⟩
  obtain ⟨hk0, hk1, hk2⟩ := scale_len hy0 hk
  have ek : (1000000000 : Int).tdiv (((blk y).getD ((blk y).length - 1) 0 : Nat) + 1 : Int) = (k : Int) := by rw [hk]; exact tdivN 1000000000 _
  obtain ⟨ad, rfl, _⟩ := hy.u (((blk y).length : Int) - 1) (by omega) (by omega)
  have c1 := (hy.ext hE1).u_ (((blk y).length : Int) - 1) ((blk y).length - 1) (by omega) (by omega)
  have bt := getD_lt (blk_all y) ((blk y).length - 1)
  (repeat ((conv => whnf); first | refine numP_i64 (by omega) ?_ | refine numP_u64 (by omega) ?_ | refine numP_u8 (by omega) ?_ | refine Exists.intro _ (And.intro ‹_› ?_) | refine Exists.intro _ (And.intro rfl ?_) | refine And.intro (by omega) (Exists.intro _ (And.intro rfl ?_)) | refine And.intro (by omega) ?_)); (conv => whnf)
  rw [ek]
  refine (nat_scaled _ _ _ _ _ _ _ (hx.ext hE1) (by omega) hk1).call ?_
  rintro vu w2 hu0
  (conv => whnf)
  have hE2 : Ext w w2 := hE1.trans hu0.ext
  refine (nat_scaled _ _ _ _ _ _ _ (hy.ext hE2) (by omega) hk1).call ?_
  rintro vv w3 hv0
  have hlx := scaled_len (x := x) hk1
  obtain ⟨Av, cv, rfl, hcv1, hcv2⟩ := hv0.shape
  have hvR : SlR kU (fun b => w2.heap.size ≤ b ∧ b < w3.heap.size) w3 (.slice Av (blk (y * k)).length cv) (blk (y * k)) := hv0.read.mono fun b hb hlt => ⟨hb, hlt⟩
  have hE3 : Ext w w3 := hE2.trans hv0.ext
  have huF : Fresh kU 124 w w3 vu (blk (x * k)) := (hu0.back hE1).up hv0.ext
  have hun : ∀ b, vu.ownBlock = some b → ¬ (w2.heap.size ≤ b ∧ b < w3.heap.size) := fun b hb hq => by have := (hu0.new1 kU_one hb).2; omega
  (conv => whnf)
  refine loop_cut tok 0 [8] [0, 6, 7, 9] [8]
    (fun vs w' => ∃ (v : Value) (us : List Nat), vs = [v] ∧ Fresh kU 124 w w' v us ∧ (∀ z ∈ us, z < 1000000000) ∧ us.length ≤ (blk x).length + 1 ∧ valB us = x * k ∧ Chg (New w) w3 w' ∧ SlR kU (fun b => w2.heap.size ≤ b ∧ b < w3.heap.size) w' (.slice Av (blk (y * k)).length cv) (blk (y * k)) ∧
      (∀ b, v.ownBlock = some b → ¬ (w2.heap.size ≤ b ∧ b < w3.heap.size)))
    (fun vs w => match vs with | [.slice _ n _] => (blk x).length + 1 - n | _ => 0)
    (fun vs w' => ∃ (v : Value) (us : List Nat), vs = [v] ∧ Fresh kU 124 w w' v us ∧ (∀ z ∈ us, z < 1000000000) ∧ us.length = (blk x).length + 1 ∧ valB us = x * k ∧ Chg (New w) w3 w' ∧ SlR kU (fun b => w2.heap.size ≤ b ∧ b < w3.heap.size) w' (.slice Av (blk (y * k)).length cv) (blk (y * k)) ∧
      (∀ b, v.ownBlock = some b → ¬ (w2.heap.size ≤ b ∧ b < w3.heap.size))) ?_
  (conv => whnf)
  refine ⟨?_, ?_, ?_⟩
  · (conv => whnf)
    exact ⟨vu, _, rfl, huF, blk_all _, hlx, valB_blk _, Chg.refl _ _, hvR, hun⟩
  · rintro _ w4 ⟨v, us, rfl, hf, hus, hlu, hval, hC, hvR, hun⟩
    obtain ⟨Au, cu, rfl, hcu1, hcu2⟩ := hf.shape
    (conv => whnf)
    refine condP_dec (fun h1 => ?_) (fun h1 => ?_)
    · (conv => whnf)
      intro b w5 hw
      (conv => whnf)
      refine fall_in (app_fresh1 tok kU_one rfl rfl rfl rfl rfl hw hf (x := 0) rfl (by omega) (by omega) fun v' w6 hf6 hch hown => ?_)
      (conv => whnf)
      obtain ⟨Au', cu', rfl, hcu1', hcu2'⟩ := hf6.shape
      refine ⟨⟨rfl, rfl⟩, ⟨_, us ++ [0], rfl, hf6, ?_, by simp; omega, by rw [snocB, Nat.mul_zero, Nat.add_zero]; exact hval, ?_, ?_, ?_⟩, ?_⟩
      · intro z hz
        rcases List.mem_append.1 hz with hz | hz
        · exact hus z hz
        · simp at hz; omega
      · exact hC.trans (hch.mono fun i hi hm => (hf.new1 kU_one hm).1)
      · exact hvR.chg hch fun b hb hm => hun b hm hb
      · intro i hi hq
        rcases hown i hi with h | h
        · exact hun i h hq
        · have := hC.size; omega
      · simp; omega
    · (conv => whnf)
      exact ⟨⟨rfl, rfl⟩, _, us, rfl, hf, hus, by omega, hval, hC, hvR, hun⟩
  clear hvR hun huF
  rintro _ w4 ⟨v, us, rfl, hf, hus, hlu, hval, hC4, hvR, hun⟩
  obtain ⟨Au, cu, rfl, hcu1, hcu2⟩ := hf.shape
  obtain ⟨g, rfl, _, hgw, hg4, _⟩ := hf.out kU_one (by omega)
  have hug : ¬ (w2.heap.size ≤ g ∧ g < w3.heap.size) := hun g rfl
  clear hun
  (repeat ((conv => whnf); first | refine numP_i64 (by omega) ?_ | refine numP_u64 (by omega) ?_ | refine numP_u8 (by omega) ?_ | refine Exists.intro _ (And.intro ‹_› ?_) | refine Exists.intro _ (And.intro rfl ?_) | refine And.intro (by omega) (Exists.intro _ (And.intro rfl ?_)) | refine And.intro (by omega) ?_)); (conv => whnf)
  obtain ⟨m, hm⟩ : ∃ m, m = us.length - (blk y).length := ⟨_, rfl⟩
  have em : ((us.length : Int) - ((blk y).length : Int)).toNat = m := by omega
  rw [em]
  refine ⟨rfl, fun b w5 hw => ?_⟩
  have hq5 : Fresh kU 124 w w5 (.slice (some ⟨b, 0, none⟩) m m) (List.replicate m 0) := Fresh.made kU_one (x := 0) hf.ext (by omega) hw
  have hf5 := hf.up (hw.chg No)
  have hv5 := hvR.ext (hw.chg No)
  have hbg : b ≠ g := by have := hw.hb; omega
  have hbn : ¬ (w2.heap.size ≤ b ∧ b < w3.heap.size) := by have := hw.hb; have := hC4.size; omega
  have hst := div_start (x := x) hy0 hk0 hlxy
  rw [← hval, show (blk x).length + 1 - (blk y).length = m by omega] at hst
  clear hw hf hvR hC4 hg4
  (conv => whnf)
  refine loop_cut tok 2 [50] [4, 6, 7, 8, 9, 49] []
    (fun vs w' => ∃ (i : Nat) (us qs : List Nat), vs = [.int .i64 i] ∧ i ≤ m ∧ Fresh kU 124 w w' (.slice (some ⟨g, 0, none⟩) ((blk x).length + 1) cu) us ∧ Fresh kU 124 w w' (.slice (some ⟨b, 0, none⟩) m m) qs ∧ (∀ z ∈ us, z < 1000000000) ∧ (∀ z ∈ qs, z < 1000000000) ∧ us.length = (blk x).length + 1 ∧ qs.length = m ∧
      (∀ j, j < m - i → qs.getD j 0 = 0) ∧ valB us + valB qs * (y * k) = x * k ∧ valB us < y * k * 1000000000 ^ (m - i) ∧ SlR kU (fun b => w2.heap.size ≤ b ∧ b < w3.heap.size) w' (.slice Av (blk (y * k)).length cv) (blk (y * k)))
    (fun vs w => match vs with | [.int _ i] => m - i.toNat | _ => 0)
    (fun vs w' => vs = [] ∧ ∃ (us qs : List Nat), Fresh kU 124 w w' (.slice (some ⟨g, 0, none⟩) ((blk x).length + 1) cu) us ∧ Fresh kU 124 w w' (.slice (some ⟨b, 0, none⟩) m m) qs ∧ (∀ z ∈ us, z < 1000000000) ∧ (∀ z ∈ qs, z < 1000000000) ∧ us.length = (blk x).length + 1 ∧ qs.length = m ∧
      valB us + valB qs * (y * k) = x * k ∧ valB us < y * k) ?_
  (conv => whnf)
  rw [← hlu]
  refine ⟨?_, ?_, ?_⟩
  · (conv => whnf)
    refine ⟨0, us, _, rfl, by omega, hf5, hq5, hus, fun z hz => by have := List.eq_of_mem_replicate hz; omega, rfl, by simp, fun j hj => ?_, ?_, hst, hv5⟩
    · rw [List.getD_eq_getElem?_getD, List.getElem?_replicate]; split <;> rfl
    · have : valB (List.replicate m 0) = 0 := by
        have := trim_blk (xs := List.replicate m 0) (fun z hz => by have := List.eq_of_mem_replicate hz; omega)
        exact tlen_zero (tlen_eq (m := 0) (by omega) (fun j _ _ => by rw [List.getD_eq_getElem?_getD, List.getElem?_replicate]; split <;> rfl) (.inl rfl))
      rw [this, Nat.zero_mul, Nat.add_zero]; exact hval
  · clear hf5 hq5 hv5 hst hval hus
    rintro _ w6 ⟨i, us', qs, rfl, hi, hfu, hfq, hus, hqs, hlu', hlq, hz, hinv, hlt, hvR⟩
    (conv => whnf)
    refine condP_dec (fun h1 => ?_) (fun h1 => ?_)
    · obtain ⟨o, ho⟩ : ∃ o, o = m - 1 - i := ⟨_, rfl⟩
      (repeat ((conv => whnf); first | refine numP_i64 (by omega) ?_ | refine numP_u64 (by omega) ?_ | refine numP_u8 (by omega) ?_ | refine Exists.intro _ (And.intro ‹_› ?_) | refine Exists.intro _ (And.intro rfl ?_) | refine And.intro (by omega) (Exists.intro _ (And.intro rfl ?_)) | refine And.intro (by omega) ?_)); (conv => whnf)
      have e1 : ((m : Int) - 1 - (i : Int)).toNat = o := by omega
      have e2 : ((m : Int) - 1 - (i : Int) + ((blk y).length : Int) + 1).toNat - o = (blk (y * k)).length + 1 := by omega
      have hVd : lowB (blk (y * k)) (blk (y * k)).length = y * k := by rw [lowB_all _ _ (Nat.le_refl _), valB_blk]
      have hyk : 0 < y * k := Nat.mul_pos (by omega) hk0
      have hyk2 : y * k ≤ 1000000000 ^ (blk (y * k)).length := by
        have := valB_lt (blk_all (y * k))
        rw [valB_blk] at this
        omega
      have hmi : m - i = o + 1 := by omega
      rw [hmi] at hlt hz
      have hpre := div_pre (us := us') (o := o) (n := (blk (y * k)).length) (V := y * k) (by omega) hlt
      rw [e1, e2, cut_at g cu o (by omega)]
      refine (nat_digit w w6 _ _ g o _ _ _ _ _ us' (blk (y * k)) hfu (by omega) hus hvR hug (blk_all _) (by omega) (by omega) (top_ne (by omega)) (by rw [hVd]; exact hpre)).call ?_
      rintro _ w7 ⟨rfl, us2, hfu2, hlu2, hus2, hoth, hval, hC⟩
      rw [hVd] at hval ⊢
      have hfq2 := hfq.stay kU_one hC (fun b hb => hb ▸ hgw) (fun b' hb' he => by
        simp only [Value.ownBlock, Option.some.injEq] at hb'
        omega)
      have hvR2 := hvR.chg hC (fun b hb hm => hug (hm ▸ hb))
      have cq1 := hfq2.at_ 0 ((m : Int) - 1 - (i : Int)) o (by omega) (by omega)
      have cq2 := (hfq2.cell kU_one (j := o) (by omega) 0).2
      (repeat ((conv => whnf); first | refine numP_i64 (by omega) ?_ | refine numP_u64 (by omega) ?_ | refine numP_u8 (by omega) ?_ | refine Exists.intro _ (And.intro ‹_› ?_) | refine Exists.intro _ (And.intro rfl ?_) | refine And.intro (by omega) (Exists.intro _ (And.intro rfl ?_)) | refine And.intro (by omega) ?_)); (conv => whnf)
      refine ⟨rfl, trivial, ⟨_, cq1, ?_⟩, fun w8 hw8 => ?_⟩
      · rw [addr_add, Nat.mul_one, e1, Nat.zero_add]; exact cq2
      rw [addr_add, Nat.mul_one, e1, Nat.zero_add] at hw8
      have hfq3 := hfq2.set kU_one (j := o) (by omega) (lowB (us'.drop o) ((blk (y * k)).length + 1) / (y * k)) hw8
      have hC8 := hw8.chg (fun i => i = b) rfl
      have hfu3 := hfu2.stay kU_one hC8 (fun i hi => by subst hi; exact (hfq.new1 kU_one rfl).1) (fun b' hb' he => by
        simp only [Value.ownBlock, Option.some.injEq] at hb'
        omega)
      have hvR3 := hvR2.chg hC8 (fun i hi hm => hbn (hm ▸ hi))
      obtain ⟨hs1, hs2⟩ := div_step (us' := us2) (d := lowB (us'.drop o) ((blk (y * k)).length + 1) / (y * k)) hus hlu2 (by omega) hoth hval rfl hinv hlt hyk hyk2 (hz o (by omega)) (by omega)
      have hd : lowB (us'.drop o) ((blk (y * k)).length + 1) / (y * k) < 1000000000 := by rw [Nat.div_lt_iff_lt_mul hyk]; exact hpre
      (repeat ((conv => whnf); first | refine numP_i64 (by omega) ?_ | refine numP_u64 (by omega) ?_ | refine numP_u8 (by omega) ?_ | refine Exists.intro _ (And.intro ‹_› ?_) | refine Exists.intro _ (And.intro rfl ?_) | refine And.intro (by omega) (Exists.intro _ (And.intro rfl ?_)) | refine And.intro (by omega) ?_)); (conv => whnf)
      refine ⟨⟨rfl, rfl⟩, ⟨i + 1, us2, _, rfl, by omega, hfu3, hfq3, hus2, set_all hqs hd, by omega, by rw [List.length_set]; exact hlq, fun j hj => ?_, hs1, ?_, hvR3⟩, by simp; omega⟩
      · rw [getD_set_other _ _ (by omega)]; exact hz j (by omega)
      · rw [show m - (i + 1) = o by omega]; exact hs2
    · obtain rfl : i = m := by omega
      rw [Nat.sub_self, Nat.pow_zero, Nat.mul_one] at hlt
      (repeat ((conv => whnf); first | refine numP_i64 (by omega) ?_ | refine numP_u64 (by omega) ?_ | refine numP_u8 (by omega) ?_ | refine Exists.intro _ (And.intro ‹_› ?_) | refine Exists.intro _ (And.intro rfl ?_) | refine And.intro (by omega) (Exists.intro _ (And.intro rfl ?_)) | refine And.intro (by omega) ?_)); (conv => whnf)
      exact ⟨⟨rfl, rfl⟩, rfl, us', qs, hfu, hfq, hus, hqs, hlu', hlq, hinv, hlt⟩
  clear hf5 hq5 hv5 hst hval hus
  rintro _ w6 ⟨rfl, us', qs, hfu, hfq, hus, hqs, hlu', hlq, hinv, hlt⟩
  (conv => whnf)
  refine (nat_trim _ _ _ _ us' w6 hfu.old).call ?_
  rintro _ w7 ⟨rfl, rfl⟩
  have hrF := hfu.take_ (tlen_le us')
  have htl : (trimL us').length = tlen us' := by unfold trimL; rw [List.length_take, Nat.min_eq_left (tlen_le us')]
  have htr : us'.take (tlen us') = blk (valB us') := trim_blk hus
  rw [htl]
  rw [htr] at hrF
  have hlr : (blk (valB us')).length = tlen us' := by rw [← htr, List.length_take, Nat.min_eq_left (tlen_le us')]
  have hlr2 := tlen_le us'
  obtain ⟨hq1, hr1⟩ := div_end hinv hlt hk0
  generalize valB us' = R at *
  generalize tlen us' = lr at *
  have hrs := blk_all R
  (conv => whnf)
  refine loop_cut tok 4 [12, 75] [4, 5, 7, 74] []
    (fun vs w' => ∃ (i : Nat) (rs : List Nat), vs = [.int .u64 (valB ((blk R).drop (lr - i)) % k : Nat), .int .i64 i] ∧ i ≤ lr ∧ Fresh kU 124 w w' (.slice (some ⟨g, 0, none⟩) lr cu) rs ∧ Fresh kU 124 w w' (.slice (some ⟨b, 0, none⟩) m m) qs ∧ rs.length = lr ∧ (∀ z ∈ rs, z < 1000000000) ∧
      (∀ j, j < lr - i → rs.getD j 0 = (blk R).getD j 0) ∧ valB (rs.drop (lr - i)) = valB ((blk R).drop (lr - i)) / k)
    (fun vs w => match vs with | [_, .int _ i] => lr - i.toNat | _ => 0)
    (fun vs w' => vs = [] ∧ ∃ (rs : List Nat), Fresh kU 124 w w' (.slice (some ⟨g, 0, none⟩) lr cu) rs ∧ Fresh kU 124 w w' (.slice (some ⟨b, 0, none⟩) m m) qs ∧ rs.length = lr ∧ (∀ z ∈ rs, z < 1000000000) ∧ valB rs = R / k) ?_
  (conv => whnf)
  refine ⟨?_, ?_, ?_⟩
  · (conv => whnf)
    have h0 : (blk R).drop (lr - 0) = [] := List.drop_of_length_le (by omega)
    refine ⟨0, blk R, ?_, by omega, hrF, hfq, hlr, hrs, fun _ _ => rfl, ?_⟩
    · rw [h0]; simp only [valB, Nat.zero_mod]; rfl
    · rw [h0]; simp only [valB, Nat.zero_div]
  · clear hrF hfq hfu
    rintro _ w8 ⟨i, rs, rfl, hi, hfr, hfq, hlrs, hrs', hoth, hval⟩
    (conv => whnf)
    refine condP_dec (fun h1 => ?_) (fun h1 => ?_)
    · obtain ⟨o, ho⟩ : ∃ o, o = lr - 1 - i := ⟨_, rfl⟩
      have e1 : ((lr : Int) - 1 - (i : Int)).toNat = o := by omega
      have c2 := hfr.at_ 0 ((lr : Int) - 1 - (i : Int)) o (by omega) (by omega)
      have bl := Nat.mod_lt (valB ((blk R).drop (lr - i))) hk0
      have ba := getD_lt hrs' o
      generalize hleft : valB ((blk R).drop (lr - i)) % k = left at *
      (repeat ((conv => whnf); first | refine numP_i64 (by omega) ?_ | refine numP_u64 (by omega) ?_ | refine numP_u8 (by omega) ?_ | refine Exists.intro _ (And.intro ‹_› ?_) | refine Exists.intro _ (And.intro rfl ?_) | refine And.intro (by omega) (Exists.intro _ (And.intro rfl ?_)) | refine And.intro (by omega) ?_)); (conv => whnf)
      refine draw_plan tok mixed (ones [0, 1, 2, 3, 4, 5, 6, 7, 8] (.alt 9 (ones [10] .done) .nil)) (by decide +kernel) (by decide +kernel) ?_
      have hfr2 := hfr.up (Chg.drew No w8)
      have hfq2 := hfq.up (Chg.drew No w8)
      have cq1 := hfr2.at_ 0 ((lr : Int) - 1 - (i : Int)) o (by omega) (by omega)
      have cq2 := (hfr2.cell kU_one (j := o) (by omega) 0).2
      have eN : (left : Int) * 1000000000 + ((rs.getD o 0 : Nat) : Int) = ((left * 1000000000 + rs.getD o 0 : Nat) : Int) := by omega
      have hNk : (left * 1000000000 + rs.getD o 0) / k ≤ left * 1000000000 + rs.getD o 0 := Nat.div_le_self _ _
      have hNB : (left * 1000000000 + rs.getD o 0) / k < 1000000000 := by
        rw [Nat.div_lt_iff_lt_mul hk0]
        omega
      have ed := tdivN (left * 1000000000 + rs.getD o 0) k
      have er := tmodN (left * 1000000000 + rs.getD o 0) k
      have hvd := valB_drop (zs := blk R) (j := o) (by omega)
      rw [show o + 1 = lr - i by omega, ← hoth o (by omega)] at hvd
      have hst := rest_step hk0 hvd
      rw [hleft] at hst
      have hsd := valB_drop (zs := rs.set o ((left * 1000000000 + rs.getD o 0) / k)) (j := o) (by rw [List.length_set]; omega)
      have eds : (rs.set o ((left * 1000000000 + rs.getD o 0) / k)).drop (o + 1) = rs.drop (o + 1) := drop_same (by rw [List.length_set]) (fun j hj => getD_set_other _ _ (by omega))
      rw [getD_set_same _ _ (by omega), eds, show o + 1 = lr - i by omega, hval, ← hst.1] at hsd
      rw [eN]
      (repeat ((conv => whnf); first | refine numP_i64 (by omega) ?_ | refine numP_u64 (by omega) ?_ | refine numP_u8 (by omega) ?_ | refine Exists.intro _ (And.intro ‹_› ?_) | refine Exists.intro _ (And.intro rfl ?_) | refine And.intro (by omega) (Exists.intro _ (And.intro rfl ?_)) | refine And.intro (by omega) ?_)); (conv => whnf)
      rw [ed]
      generalize (left * 1000000000 + rs.getD o 0) / k = dq at *
      (repeat ((conv => whnf); first | refine numP_i64 (by omega) ?_ | refine numP_u64 (by omega) ?_ | refine numP_u8 (by omega) ?_ | refine Exists.intro _ (And.intro ‹_› ?_) | refine Exists.intro _ (And.intro rfl ?_) | refine And.intro (by omega) (Exists.intro _ (And.intro rfl ?_)) | refine And.intro (by omega) ?_)); (conv => whnf)
      rw [er, ← hst.2]
      refine ⟨⟨rfl, trivial, ⟨_, cq1, ?_⟩, fun w9 hw9 => ?_⟩, trivial⟩
      · rw [addr_add, Nat.mul_one, e1, Nat.zero_add]; exact cq2
      rw [addr_add, Nat.mul_one, e1, Nat.zero_add] at hw9
      have hfr3 := hfr2.set kU_one (j := o) (by omega) dq hw9
      have hfq3 := hfq2.stay kU_one (hw9.chg (fun i => i = g) rfl) (fun i hi => hi ▸ hgw) (fun b' hb' he => by
        simp only [Value.ownBlock, Option.some.injEq] at hb'
        omega)
      (repeat ((conv => whnf); first | refine numP_i64 (by omega) ?_ | refine numP_u64 (by omega) ?_ | refine numP_u8 (by omega) ?_ | refine Exists.intro _ (And.intro ‹_› ?_) | refine Exists.intro _ (And.intro rfl ?_) | refine And.intro (by omega) (Exists.intro _ (And.intro rfl ?_)) | refine And.intro (by omega) ?_)); (conv => whnf)
      have eo : lr - (i + 1) = o := by omega
      refine ⟨⟨rfl, rfl⟩, ⟨i + 1, _, by rw [eo]; rfl, by omega, hfr3, hfq3, by rw [List.length_set]; exact hlrs, set_all hrs' hNB, fun j hj => ?_, ?_⟩, by simp; omega⟩
      · rw [getD_set_other _ _ (by omega)]; exact hoth j (by omega)
      · rw [eo]; exact hsd
    · obtain rfl : i = lr := by omega
      rw [Nat.sub_self, List.drop_zero, List.drop_zero, valB_blk] at hval
      (repeat ((conv => whnf); first | refine numP_i64 (by omega) ?_ | refine numP_u64 (by omega) ?_ | refine numP_u8 (by omega) ?_ | refine Exists.intro _ (And.intro ‹_› ?_) | refine Exists.intro _ (And.intro rfl ?_) | refine And.intro (by omega) (Exists.intro _ (And.intro rfl ?_)) | refine And.intro (by omega) ?_)); (conv => whnf)
      exact ⟨⟨rfl, rfl⟩, rfl, rs, hfr, hfq, hlrs, hrs', hval⟩
  clear hrF hfq hfu
  rintro _ w8 ⟨rfl, rs, hfr, hfq, hlrs, hrs', hval⟩
  (conv => whnf)
  refine (nat_trim _ _ _ _ qs w8 hfq.old).call ?_
  rintro _ w9 ⟨rfl, rfl⟩
  (conv => whnf)
  refine (nat_trim _ _ _ _ rs w9 hfr.old).call ?_
  rintro _ w10 ⟨rfl, rfl⟩
  (conv => whnf)
  have t1 := (hfq.take_ (tlen_le qs)).old
  have t2 := (hfr.take_ (tlen_le rs)).old
  have l1 : (trimL qs).length = tlen qs := by unfold trimL; rw [List.length_take, Nat.min_eq_left (tlen_le qs)]
  have l2 : (trimL rs).length = tlen rs := by unfold trimL; rw [List.length_take, Nat.min_eq_left (tlen_le rs)]
  have e1 : qs.take (tlen qs) = blk (x / y) := by rw [← hq1]; exact trim_blk hqs
  have e2 : rs.take (tlen rs) = blk (x % y) := by rw [← hr1, ← hval]; exact trim_blk hrs'
  rw [e1] at t1
  rw [e2] at t2
  rw [l1, l2]
  exact ⟨_, _, rfl, t1, t2, hfq.ext⟩
end Go.Proofs.YtfeegacmmfgjfaaGreatDoorX

/-!  Package nat: Div, Gcd. -/
set_option linter.unusedVariables false
set_option maxRecDepth 10000
namespace Go.Proofs.YtfeegacmmfgjfaaGreatDoorX
open Go Go.RowKit Go.Proofs Go.Proofs.YtfeegacmmfgjfaaGreatDoorM

/-- Of a divisor that is not 0. -/
theorem nat_Div (x y : Nat) (w : World) (hL : Laid w) (hx : (dd x).length ≤ 1000) (hy : (dd y).length ≤ 1000) (hy0 : y ≠ 0) : Ret Tryz.prog 159 #[.string (str (dd x)), .string (str (dd y))] w fun v w' => v = .tuple #[.string (str (dd (x / y))), .string (str (dd (x % y))), .int .i64 0] ∧ Ext w w' := by
  refine fn_ret tok Tryz.func159 (by kernel_rfl) rfl rfl ?_
  (conv => whnf)
  refine (nat_Valid_dd x _ hx).call ?_
  rintro _ w ⟨rfl, rfl⟩
  (conv => whnf)
  refine (nat_Valid_dd y _ hy).call ?_
  rintro _ w ⟨rfl, rfl⟩
  (conv => whnf)
  refine condP_str (a := dd y) (b := [48]) (fun h => ?_) (fun h => ?_)
  · exfalso
    have := dval_dd y
    rw [h] at this
    exact hy0 this.symm
  (conv => whnf)
  refine (nat_blocks_dd x _ hx).call ?_
  rintro v1 w1 h1
  (conv => whnf)
  refine (nat_blocks_dd y _ hy).call ?_
  rintro v2 w2 h2
  obtain ⟨A1, c1, rfl, _⟩ := h1.shape
  obtain ⟨A2, c2, rfl, _⟩ := h2.shape
  have hlx : (blk x).length ≤ 112 := blk_len_dd (by omega)
  have hly : (blk y).length ≤ 112 := blk_len_dd (by omega)
  (conv => whnf)
  refine (nat_divide _ _ _ _ _ _ _ _ _ _ _ (h1.old.ext h2.ext) h2.old ⟨by omega, by omega⟩ hy0).call ?_
  rintro _ w3 ⟨vq, vr, rfl, hq, hr, hE⟩
  obtain ⟨A3, c3, rfl, _⟩ := hq.shape
  obtain ⟨A4, c4, rfl, _⟩ := hr.shape
  (conv => whnf)
  have hL3 := ((hL.ext h1.ext).ext h2.ext).ext hE
  have hlq : (blk (x / y)).length ≤ 112 := blk_len_dd (by have := dd_mono (Nat.div_le_self x y); omega)
  have hlr : (blk (x % y)).length ≤ 112 := blk_len_dd (by have := dd_mono (Nat.mod_le x y); omega)
  refine (nat_text _ _ _ _ _ _ hL3 hq (by omega)).call ?_
  rintro _ w4 ⟨rfl, hE4⟩
  (conv => whnf)
  refine (nat_text _ _ _ _ _ _ (hL3.ext hE4) (hr.ext hE4) (by omega)).call ?_
  rintro _ w5 ⟨rfl, hE5⟩
  (conv => whnf)
  exact ⟨rfl, (((h1.ext.trans h2.ext).trans hE).trans hE4).trans hE5⟩
theorem nat_Gcd (x y : Nat) (w : World) (hL : Laid w) (hx : (dd x).length ≤ 1000) (hy : (dd y).length ≤ 1000) : Ret Tryz.prog 77 #[.string (str (dd x)), .string (str (dd y))] w fun v w' => v = .tuple #[.string (str (dd (Nat.gcd x y))), .int .i64 0] ∧ Ext w w' := by
  refine fn_ret tok Tryz.func77 (by kernel_rfl) rfl rfl ?_
  (conv => whnf)
  refine (nat_Valid_dd x _ hx).call ?_
  rintro _ w ⟨rfl, rfl⟩
  (conv => whnf)
  refine (nat_Valid_dd y _ hy).call ?_
  rintro _ w ⟨rfl, rfl⟩
  (conv => whnf)
  refine (nat_blocks_dd x _ hx).call ?_
  rintro v1 w1 h1
  (conv => whnf)
  refine (nat_blocks_dd y _ hy).call ?_
  rintro v2 w2 h2
  obtain ⟨A1, c1, rfl, _⟩ := h1.shape
  obtain ⟨A2, c2, rfl, _⟩ := h2.shape
  have hlx : (blk x).length ≤ 112 := blk_len_dd (by omega)
  have hly : (blk y).length ≤ 112 := blk_len_dd (by omega)
  (conv => whnf)
  refine loop_gh tok 0 [6, 7] [] [6]
    (fun m vs w' => ∃ (a b : Nat) (va vb : Value), vs = [va, vb] ∧ m = b ∧ SlR kU (Old w') w' va (blk a) ∧ SlR kU (Old w') w' vb (blk b) ∧ Nat.gcd a b = Nat.gcd x y ∧ (blk a).length ≤ 112 ∧ (blk b).length ≤ 112 ∧ Ext w w')
    (fun vs w' => ∃ (va : Value), vs = [va] ∧ SlR kU (Old w') w' va (blk (Nat.gcd x y)) ∧ (blk (Nat.gcd x y)).length ≤ 112 ∧ Ext w w') ?_
  (conv => whnf)
  refine ⟨?_, ?_, ?_⟩
  · (conv => whnf)
    exact ⟨y, x, y, _, _, rfl, rfl, (h1.old.ext h2.ext).old, h2.old, rfl, hlx, hly, h1.ext.trans h2.ext⟩
  · rintro m _ w3 ⟨a, b, va, vb, rfl, rfl, ha, hb, hg, hla, hlb, hE⟩
    obtain ⟨A3, c3, rfl, _⟩ := ha.shape
    obtain ⟨A4, c4, rfl, _⟩ := hb.shape
    (conv => whnf)
    refine condP_dec (fun h => ?_) (fun h => ?_)
    · have hb0 : m ≠ 0 := by
        rintro rfl
        rw [blk_zero] at h
        exact absurd h (by decide)
      (conv => whnf)
      refine (nat_divide _ _ _ _ _ _ _ _ _ _ _ ha hb ⟨by omega, by omega⟩ hb0).call ?_
      rintro _ w4 ⟨vq, vr, rfl, hq, hr, hE4⟩
      (conv => whnf)
      refine ⟨⟨rfl, rfl⟩, a % m, Nat.mod_lt _ (by omega), m, a % m, _, _, rfl, rfl, (hb.ext hE4).old, hr, ?_, hlb, ?_, hE.trans hE4⟩
      · rw [← hg, Nat.gcd_comm, ← Nat.gcd_rec, Nat.gcd_comm]
      · exact Nat.le_trans (blk_len_le (Nat.lt_of_lt_of_le (Nat.lt_of_le_of_lt (Nat.le_of_lt (Nat.mod_lt a (show 0 < m by omega))) (by have := valB_lt (blk_all m); rw [valB_blk] at this; exact this)) (Nat.le_refl _))) hlb
    · obtain rfl : m = 0 := by
        rcases Nat.eq_zero_or_pos m with h0 | h0
        · exact h0
        · have := (blk_top (n := m) (by omega)).2
          exact absurd (by omega) h
      rw [Nat.gcd_zero_right] at hg
      (conv => whnf)
      rw [hg] at ha hla
      exact ⟨⟨rfl, rfl⟩, _, by rw [hg], ha, hla, hE⟩
  rintro _ w3 ⟨va, rfl, ha, hla, hE⟩
  obtain ⟨A3, c3, rfl, _⟩ := ha.shape
  (conv => whnf)
  refine (nat_text _ _ _ _ _ _ (hL.ext hE) ha (by omega)).call ?_
  rintro _ w4 ⟨rfl, hE4⟩
  (conv => whnf)
  exact ⟨rfl, hE.trans hE4⟩
end Go.Proofs.YtfeegacmmfgjfaaGreatDoorX

/-!  Plain: products, row by row. -/
set_option linter.unusedVariables false
namespace Go.Proofs.YtfeegacmmfgjfaaGreatDoorM
theorem mul_step {L L0 Y P l x yk c : Nat} (ih : L + P * c = L0 + x * Y) (hl : l < 1000000000) (hx : x < 1000000000) (hy : yk < 1000000000) (hc : c < 1000000000) :
    (L + P * ((l + c + x * yk) % 1000000000)) + P * 1000000000 * ((l + c + x * yk) / 1000000000) = (L0 + P * l) + x * (Y + P * yk) ∧ (l + c + x * yk) / 1000000000 < 1000000000 ∧ l + c + x * yk ≤ 999999999999999999 := by
  have hm : x * yk ≤ 999999999 * 999999999 := Nat.mul_le_mul (by omega) (by omega)
  have e : x * (Y + P * yk) = x * Y + P * (x * yk) := by rw [Nat.mul_add, Nat.mul_left_comm]
  rw [e]
  generalize x * yk = m at *
  refine ⟨?_, by omega, by omega⟩
  have key : (l + c + m) % 1000000000 + 1000000000 * ((l + c + m) / 1000000000) = l + c + m := Nat.mod_add_div _ _
  generalize (l + c + m) % 1000000000 = s at *
  generalize (l + c + m) / 1000000000 = t at *
  have k2 : P * (s + 1000000000 * t) = P * (l + c + m) := by rw [key]
  rw [Nat.mul_add, Nat.mul_add, Nat.mul_add, ← Nat.mul_assoc] at k2
  omega
theorem mul_row {zs ls : List Nat} {i n x Y c V : Nat} (hzs : ∀ z ∈ zs, z < 1000000000) (hls : ∀ z ∈ ls, z < 1000000000) (hlen : ls.length = zs.length) (hi : i + n + 1 ≤ zs.length) (hoth : ∀ j, j < i ∨ i + n + 1 ≤ j → ls.getD j 0 = zs.getD j 0)
    (hval : lowB (ls.drop i) (n + 1) + 1000000000 ^ (n + 1) * c = lowB (zs.drop i) (n + 1) + x * Y) (hx : x < 1000000000) (hY : Y < 1000000000 ^ n) (hV : valB zs = V) (hVlt : V < 1000000000 ^ (i + n)) : valB ls = V + 1000000000 ^ i * (x * Y) := by
  have h1 := seg_val zs (o := i) (k := n + 1) (by omega)
  have h2 := seg_val ls (o := i) (k := n + 1) (by omega)
  have e1 : lowB ls i = lowB zs i := lowB_congr fun j hj => hoth j (.inl hj)
  have e2 : ls.drop (i + (n + 1)) = zs.drop (i + (n + 1)) := drop_same hlen fun j hj => hoth j (.inr (by omega))
  rw [e1, e2] at h2
  -- the part of the old row is short
  have h3 : lowB (zs.drop i) (n + 1) < 1000000000 ^ n := by
    have g : 1000000000 ^ i * lowB (zs.drop i) (n + 1) < 1000000000 ^ i * 1000000000 ^ n := by
      rw [← Nat.pow_add]
      rw [Nat.mul_add] at h1
      omega
    exact Nat.lt_of_mul_lt_mul_left g
  have h4 : x * Y ≤ 999999999 * 1000000000 ^ n := Nat.mul_le_mul (by omega) (by omega)
  have hc : c = 0 := by
    rcases Nat.eq_zero_or_pos c with h | h
    · exact h
    · exfalso
      have g : 1000000000 ^ (n + 1) * 1 ≤ 1000000000 ^ (n + 1) * c := Nat.mul_le_mul_left _ h
      rw [Nat.pow_succ] at g hval
      generalize 1000000000 ^ n * 1000000000 * c = gc at *
      omega
  rw [hc, Nat.mul_zero, Nat.add_zero] at hval
  rw [h2, hval, ← hV, h1, Nat.mul_add, Nat.mul_add, Nat.mul_add]
  omega
end Go.Proofs.YtfeegacmmfgjfaaGreatDoorM

/-!  Package nat: Mul. -/
set_option linter.unusedVariables false
set_option maxRecDepth 10000
namespace Go.Proofs.YtfeegacmmfgjfaaGreatDoorX
open Go Go.RowKit Go.Proofs Go.Proofs.YtfeegacmmfgjfaaGreatDoorM

theorem nat_Mul (x y : Nat) (w : World) (hL : Laid w) (hx : (dd x).length ≤ 1000) (hy : (dd y).length ≤ 1000) : Ret Tryz.prog 43 #[.string (str (dd x)), .string (str (dd y))] w fun v w' => v = .tuple #[.string (str (limS (x * y))), .int .i64 (limE (x * y))] ∧ Ext w w' := by
  refine fn_ret tok Tryz.func43 (by kernel_rfl) rfl rfl ?_
  (conv => whnf)
  refine (nat_Valid_dd x _ hx).call ?_
  rintro _ w ⟨rfl, rfl⟩
  (conv => whnf)
  refine (nat_Valid_dd y _ hy).call ?_
  rintro _ w ⟨rfl, rfl⟩
  (conv => whnf)
  refine (nat_blocks_dd x _ hx).call ?_
  rintro v1 w1 h1
  (conv => whnf)
  refine (nat_blocks_dd y _ hy).call ?_
  rintro v2 w2 h2
  obtain ⟨A1, c1, rfl, _⟩ := h1.shape
  obtain ⟨A2, c2, rfl, _⟩ := h2.shape
  have hlx : (blk x).length ≤ 112 := blk_len_dd (by omega)
  have hly : (blk y).length ≤ 112 := blk_len_dd (by omega)
  (repeat ((conv => whnf); first | refine numP_i64 (by omega) ?_ | refine numP_u64 (by omega) ?_ | refine numP_u8 (by omega) ?_ | refine Exists.intro _ (And.intro ‹_› ?_) | refine Exists.intro _ (And.intro rfl ?_) | refine And.intro (by omega) (Exists.intro _ (And.intro rfl ?_)) | refine And.intro (by omega) ?_)); (conv => whnf)
  have em : (((blk x).length : Int) + ((blk y).length : Int) + 1).toNat = (blk x).length + (blk y).length + 1 := by omega
  rw [em]
  refine ⟨rfl, fun b w3 hw => ?_⟩
  have hE2 : Ext w w2 := h1.ext.trans h2.ext
  have hl3 : Fresh kU 124 w w3 (.slice (some ⟨b, 0, none⟩) ((blk x).length + (blk y).length + 1) ((blk x).length + (blk y).length + 1)) (List.replicate ((blk x).length + (blk y).length + 1) 0) := Fresh.made kU_one (x := 0) hE2 (by omega) hw
  have hx3 : SlR kU (fun i => i < b) w3 (.slice A1 (blk x).length c1) (blk x) := ((h1.read.ext h2.ext).mono (fun i hi hlt => by rw [hw.hb]; exact hlt)).ext (hw.chg No)
  have hy3 : SlR kU (fun i => i < b) w3 (.slice A2 (blk y).length c2) (blk y) := (h2.read.mono (fun i hi hlt => by rw [hw.hb]; exact hlt)).ext (hw.chg No)
  have hbw : w.heap.size ≤ b := by rw [hw.hb]; exact hE2.size
  generalize hN : (blk x).length + (blk y).length + 1 = N at *
  have h0 : valB (List.replicate N 0) = 0 := tlen_zero (tlen_eq (m := 0) (by omega) (fun j _ _ => by rw [List.getD_eq_getElem?_getD, List.getElem?_replicate]; split <;> rfl) (.inl rfl))
  have hyB : y < 1000000000 ^ (blk y).length := by
    have := valB_lt (blk_all y)
    rwa [valB_blk] at this
  clear hw h1 h2 hE2
  (conv => whnf)
  refine loop_cut tok 0 [34] [6, 7, 8, 33] []
    (fun vs w' => ∃ (i : Nat) (ls : List Nat), vs = [.int .i64 i] ∧ i ≤ (blk x).length ∧ Fresh kU 124 w w' (.slice (some ⟨b, 0, none⟩) N N) ls ∧ ls.length = N ∧ (∀ z ∈ ls, z < 1000000000) ∧ valB ls = lowB (blk x) i * y ∧
      SlR kU (fun i => i < b) w' (.slice A1 (blk x).length c1) (blk x) ∧ SlR kU (fun i => i < b) w' (.slice A2 (blk y).length c2) (blk y))
    (fun vs w => match vs with | [.int _ i] => (blk x).length - i.toNat | _ => 0)
    (fun vs w' => vs = [] ∧ ∃ (ls : List Nat), Fresh kU 124 w w' (.slice (some ⟨b, 0, none⟩) N N) ls ∧ ls.length = N ∧ (∀ z ∈ ls, z < 1000000000) ∧ valB ls = x * y) ?_
  (conv => whnf)
  refine ⟨?_, ?_, ?_⟩
  · (conv => whnf)
    exact ⟨0, _, rfl, by omega, hl3, by rw [List.length_replicate], fun z hz => by have := List.eq_of_mem_replicate hz; omega, by rw [h0, lowB, Nat.zero_mul], hx3, hy3⟩
  · clear hl3 hx3 hy3 h0
    rintro _ w4 ⟨i, zs, rfl, hi, hf, hlen, hzs, hval, hxr, hyr⟩
    (conv => whnf)
    refine condP_dec (fun h1 => ?_) (fun h1 => ?_)
    · (repeat ((conv => whnf); first | refine numP_i64 (by omega) ?_ | refine numP_u64 (by omega) ?_ | refine numP_u8 (by omega) ?_ | refine Exists.intro _ (And.intro ‹_› ?_) | refine Exists.intro _ (And.intro rfl ?_) | refine And.intro (by omega) (Exists.intro _ (And.intro rfl ?_)) | refine And.intro (by omega) ?_)); (conv => whnf)
      have bxi := getD_lt (blk_all x) i
      refine loop_cut tok 2 [10, 40] [6, 7, 8, 9, 33, 34, 39] []
        (fun vs w' => ∃ (c k : Nat) (ls : List Nat), vs = [.int .u64 c, .int .i64 k] ∧ k ≤ (blk y).length + 1 ∧ c < 1000000000 ∧ Fresh kU 124 w w' (.slice (some ⟨b, 0, none⟩) N N) ls ∧ ls.length = N ∧ (∀ z ∈ ls, z < 1000000000) ∧ (∀ j, j < i ∨ i + k ≤ j → ls.getD j 0 = zs.getD j 0) ∧
          lowB (ls.drop i) k + 1000000000 ^ k * c = lowB (zs.drop i) k + (blk x).getD i 0 * lowB (blk y) k ∧ SlR kU (fun i => i < b) w' (.slice A1 (blk x).length c1) (blk x) ∧ SlR kU (fun i => i < b) w' (.slice A2 (blk y).length c2) (blk y))
        (fun vs w => match vs with | [_, .int _ k] => (blk y).length + 1 - k.toNat | _ => 0)
        (fun vs w' => vs = [] ∧ ∃ (c : Nat) (ls : List Nat), Fresh kU 124 w w' (.slice (some ⟨b, 0, none⟩) N N) ls ∧ ls.length = N ∧ (∀ z ∈ ls, z < 1000000000) ∧ (∀ j, j < i ∨ i + (blk y).length + 1 ≤ j → ls.getD j 0 = zs.getD j 0) ∧
          lowB (ls.drop i) ((blk y).length + 1) + 1000000000 ^ ((blk y).length + 1) * c = lowB (zs.drop i) ((blk y).length + 1) + (blk x).getD i 0 * y ∧ SlR kU (fun i => i < b) w' (.slice A1 (blk x).length c1) (blk x) ∧ SlR kU (fun i => i < b) w' (.slice A2 (blk y).length c2) (blk y)) ?_
      (conv => whnf)
      refine ⟨?_, ?_, ?_⟩
      · (conv => whnf)
        exact ⟨0, 0, zs, rfl, by omega, by omega, hf, hlen, hzs, fun _ _ => rfl, by simp only [lowB, Nat.mul_zero], hxr, hyr⟩
      · clear hf hxr hyr
        rintro _ w5 ⟨cy, k, ls, rfl, hk, hcy, hf, hlen2, hls, hoth, hval2, hxr, hyr⟩
        (conv => whnf)
        refine condP_dec (fun h2 => ?_) (fun h2 => ?_)
        · have cl1 := hf.at_ 0 ((i : Int) + (k : Int)) (i + k) (by omega) (by omega)
          have cl2 := (hf.cell kU_one (j := i + k) (by omega) 0).2
          have bl := getD_lt hls (i + k)
          have byk := getD_lt (blk_all y) k
          have el : ls.getD (i + k) 0 = zs.getD (i + k) 0 := hoth _ (by omega)
          have hms := mul_step (P := 1000000000 ^ k) (l := ls.getD (i + k) 0) (yk := (blk y).getD k 0) hval2 bl bxi byk hcy
          (repeat ((conv => whnf); first | refine numP_i64 (by omega) ?_ | refine numP_u64 (by omega) ?_ | refine numP_u8 (by omega) ?_ | refine Exists.intro _ (And.intro ‹_› ?_) | refine Exists.intro _ (And.intro rfl ?_) | refine And.intro (by omega) (Exists.intro _ (And.intro rfl ?_)) | refine And.intro (by omega) ?_)); (conv => whnf)
          refine condP_dec (fun h3 => ?_) (fun h3 => ?_)
          · have hE5 : Ext w5 w5.drew := Chg.drew _ _
            obtain ⟨ad1, rfl, _⟩ := hxr.u (i : Int) (by omega) (by omega)
            obtain ⟨ad2, rfl, _⟩ := hyr.u (k : Int) (by omega) (by omega)
            have cx1 := (hxr.ext hE5).u_ (i : Int) i (by omega) (by omega)
            have cy1 := (hyr.ext hE5).u_ (k : Int) k (by omega) (by omega)
            have hmm : (blk x).getD i 0 * (blk y).getD k 0 ≤ 999999999 * 999999999 := Nat.mul_le_mul (by omega) (by omega)
            have hmI : (((blk x).getD i 0 : Nat) : Int) * (((blk y).getD k 0 : Nat) : Int) = (((blk x).getD i 0 * (blk y).getD k 0 : Nat) : Int) := (Int.natCast_mul _ _).symm
            (conv => whnf)
            refine draw_read tok mixed (by decide +kernel) ?_
            (repeat ((conv => whnf); first | refine numP_i64 (by omega) ?_ | refine numP_u64 (by omega) ?_ | refine numP_u8 (by omega) ?_ | refine Exists.intro _ (And.intro (fun _ h => (congrArg (fun w => World.cell? w _) h).trans ‹_›) ?_) | refine And.intro (by omega) (Exists.intro _ (And.intro rfl ?_)) | refine And.intro (by omega) ?_)); (conv => whnf)
            rw [hmI]
            (repeat ((conv => whnf); first | refine numP_i64 (by omega) ?_ | refine numP_u64 (by omega) ?_ | refine numP_u8 (by omega) ?_ | refine Exists.intro _ (And.intro (fun _ h => (congrArg (fun w => World.cell? w _) h).trans ‹_›) ?_) | refine And.intro (by omega) (Exists.intro _ (And.intro rfl ?_)) | refine And.intro (by omega) ?_)); (conv => whnf)
            rintro _ rfl
            have hf := hf.up hE5
            have cl1 := hf.at_ 0 ((i : Int) + (k : Int)) (i + k) (by omega) (by omega)
            have cl2 := (hf.cell kU_one (j := i + k) (by omega) 0).2
            have hxr := hxr.ext hE5
            have hyr := hyr.ext hE5
            have es : ((ls.getD (i + k) 0 : Nat) : Int) + (cy : Int) + (((blk x).getD i 0 * (blk y).getD k 0 : Nat) : Int) = ((ls.getD (i + k) 0 + cy + (blk x).getD i 0 * (blk y).getD k 0 : Nat) : Int) := by rw [Int.natCast_add, Int.natCast_add]
            (conv => whnf)
            rw [es]
            generalize hp : ls.getD (i + k) 0 + cy + (blk x).getD i 0 * (blk y).getD k 0 = p at *
            (repeat ((conv => whnf); first | refine numP_i64 (by omega) ?_ | refine numP_u64 (by omega) ?_ | refine numP_u8 (by omega) ?_ | refine Exists.intro _ (And.intro ‹_› ?_) | refine Exists.intro _ (And.intro rfl ?_) | refine And.intro (by omega) (Exists.intro _ (And.intro rfl ?_)) | refine And.intro (by omega) ?_)); (conv => whnf)
            rw [tdivB, tmodB]
            (repeat ((conv => whnf); first | refine numP_i64 (by omega) ?_ | refine numP_u64 (by omega) ?_ | refine numP_u8 (by omega) ?_ | refine Exists.intro _ (And.intro ‹_› ?_) | refine Exists.intro _ (And.intro rfl ?_) | refine And.intro (by omega) (Exists.intro _ (And.intro rfl ?_)) | refine And.intro (by omega) ?_)); (conv => whnf)
            refine ⟨rfl, trivial, ⟨_, cl1, ?_⟩, fun w6 hw6 => ?_⟩
            · rw [addr_add, Nat.mul_one, show ((i : Int) + (k : Int)).toNat = i + k by omega, Nat.zero_add]; exact cl2
            rw [addr_add, Nat.mul_one, show ((i : Int) + (k : Int)).toNat = i + k by omega, Nat.zero_add] at hw6
            have hf2 := hf.set kU_one (j := i + k) (by omega) (p % 1000000000) hw6
            have hC := hw6.chg (fun i => i = b) rfl
            have hxr2 := hxr.chg hC (fun j hj hm => by omega)
            have hyr2 := hyr.chg hC (fun j hj hm => by omega)
            (repeat ((conv => whnf); first | refine numP_i64 (by omega) ?_ | refine numP_u64 (by omega) ?_ | refine numP_u8 (by omega) ?_ | refine Exists.intro _ (And.intro ‹_› ?_) | refine Exists.intro _ (And.intro rfl ?_) | refine And.intro (by omega) (Exists.intro _ (And.intro rfl ?_)) | refine And.intro (by omega) ?_)); (conv => whnf)
            refine ⟨⟨rfl, rfl⟩, ⟨_, k + 1, ls.set (i + k) (p % 1000000000), rfl, by omega, hms.2.1, hf2, by rw [List.length_set]; exact hlen2, set_all hls (Nat.mod_lt _ (by decide)), fun j hj => ?_, ?_, hxr2, hyr2⟩, by simp; omega⟩
            · rw [getD_set_other _ _ (by omega)]; exact hoth j (by omega)
            · rw [low_set (by omega), lowB, lowB, getD_drop, Nat.pow_succ, ← el]; exact hms.1
          · have ev0 : (blk y).getD k 0 = 0 := by rw [List.getD_eq_getElem?_getD, List.getElem?_eq_none (by omega)]; rfl
            have es : ((ls.getD (i + k) 0 : Nat) : Int) + (cy : Int) = ((ls.getD (i + k) 0 + cy + (blk x).getD i 0 * (blk y).getD k 0 : Nat) : Int) := by rw [ev0, Nat.mul_zero, Nat.add_zero, Int.natCast_add]
            (conv => whnf)
            rw [es]
            generalize hp : ls.getD (i + k) 0 + cy + (blk x).getD i 0 * (blk y).getD k 0 = p at *
            (repeat ((conv => whnf); first | refine numP_i64 (by omega) ?_ | refine numP_u64 (by omega) ?_ | refine numP_u8 (by omega) ?_ | refine Exists.intro _ (And.intro ‹_› ?_) | refine Exists.intro _ (And.intro rfl ?_) | refine And.intro (by omega) (Exists.intro _ (And.intro rfl ?_)) | refine And.intro (by omega) ?_)); (conv => whnf)
            rw [tdivB, tmodB]
            (repeat ((conv => whnf); first | refine numP_i64 (by omega) ?_ | refine numP_u64 (by omega) ?_ | refine numP_u8 (by omega) ?_ | refine Exists.intro _ (And.intro ‹_› ?_) | refine Exists.intro _ (And.intro rfl ?_) | refine And.intro (by omega) (Exists.intro _ (And.intro rfl ?_)) | refine And.intro (by omega) ?_)); (conv => whnf)
            refine ⟨rfl, trivial, ⟨_, cl1, ?_⟩, fun w6 hw6 => ?_⟩
            · rw [addr_add, Nat.mul_one, show ((i : Int) + (k : Int)).toNat = i + k by omega, Nat.zero_add]; exact cl2
            rw [addr_add, Nat.mul_one, show ((i : Int) + (k : Int)).toNat = i + k by omega, Nat.zero_add] at hw6
            have hf2 := hf.set kU_one (j := i + k) (by omega) (p % 1000000000) hw6
            have hC := hw6.chg (fun i => i = b) rfl
            have hxr2 := hxr.chg hC (fun j hj hm => by omega)
            have hyr2 := hyr.chg hC (fun j hj hm => by omega)
            (repeat ((conv => whnf); first | refine numP_i64 (by omega) ?_ | refine numP_u64 (by omega) ?_ | refine numP_u8 (by omega) ?_ | refine Exists.intro _ (And.intro ‹_› ?_) | refine Exists.intro _ (And.intro rfl ?_) | refine And.intro (by omega) (Exists.intro _ (And.intro rfl ?_)) | refine And.intro (by omega) ?_)); (conv => whnf)
            refine ⟨⟨rfl, rfl⟩, ⟨_, k + 1, ls.set (i + k) (p % 1000000000), rfl, by omega, hms.2.1, hf2, by rw [List.length_set]; exact hlen2, set_all hls (Nat.mod_lt _ (by decide)), fun j hj => ?_, ?_, hxr2, hyr2⟩, by simp; omega⟩
            · rw [getD_set_other _ _ (by omega)]; exact hoth j (by omega)
            · rw [low_set (by omega), lowB, lowB, getD_drop, Nat.pow_succ, ← el]; exact hms.1
        · obtain rfl : k = (blk y).length + 1 := by omega
          have hyn : lowB (blk y) ((blk y).length + 1) = y := by rw [lowB_all _ _ (by omega), valB_blk]
          rw [hyn] at hval2
          (repeat ((conv => whnf); first | refine numP_i64 (by omega) ?_ | refine numP_u64 (by omega) ?_ | refine numP_u8 (by omega) ?_ | refine Exists.intro _ (And.intro ‹_› ?_) | refine Exists.intro _ (And.intro rfl ?_) | refine And.intro (by omega) (Exists.intro _ (And.intro rfl ?_)) | refine And.intro (by omega) ?_)); (conv => whnf)
          exact ⟨⟨rfl, rfl⟩, rfl, cy, ls, hf, hlen2, hls, fun j hj => hoth j (by omega), hval2, hxr, hyr⟩
      clear hf hxr hyr
      rintro _ w5 ⟨rfl, cy, ls, hf, hlen2, hls, hoth, hval2, hxr, hyr⟩
      (repeat ((conv => whnf); first | refine numP_i64 (by omega) ?_ | refine numP_u64 (by omega) ?_ | refine numP_u8 (by omega) ?_ | refine Exists.intro _ (And.intro ‹_› ?_) | refine Exists.intro _ (And.intro rfl ?_) | refine And.intro (by omega) (Exists.intro _ (And.intro rfl ?_)) | refine And.intro (by omega) ?_)); (conv => whnf)
      have hVlt : lowB (blk x) i * y < 1000000000 ^ (i + (blk y).length) := by
        rw [Nat.pow_add]
        rcases Nat.eq_zero_or_pos y with h0 | h0
        · rw [h0, Nat.mul_zero]; exact Nat.mul_pos (Nat.pow_pos (by decide)) (Nat.pow_pos (by decide))
        · exact Nat.mul_lt_mul'' (low_lt (blk_all x) i) hyB
      have hrow := mul_row hzs hls (by omega) (by omega) hoth hval2 bxi hyB hval hVlt
      refine ⟨⟨rfl, rfl⟩, ⟨i + 1, ls, rfl, by omega, hf, hlen2, hls, ?_, hxr, hyr⟩, by simp; omega⟩
      rw [hrow, lowB, Nat.add_mul, Nat.mul_assoc]
    · obtain rfl : i = (blk x).length := by omega
      rw [lowB_all _ _ (Nat.le_refl _), valB_blk] at hval
      (repeat ((conv => whnf); first | refine numP_i64 (by omega) ?_ | refine numP_u64 (by omega) ?_ | refine numP_u8 (by omega) ?_ | refine Exists.intro _ (And.intro ‹_› ?_) | refine Exists.intro _ (And.intro rfl ?_) | refine And.intro (by omega) (Exists.intro _ (And.intro rfl ?_)) | refine And.intro (by omega) ?_)); (conv => whnf)
      exact ⟨⟨rfl, rfl⟩, rfl, zs, hf, hlen, hzs, hval⟩
  clear hl3 hx3 hy3 h0
  rintro _ w4 ⟨rfl, ls, hf, hlen, hls, hval⟩
  (conv => whnf)
  refine (nat_trim _ _ _ _ ls w4 (by rw [← hlen]; rw [← hlen] at hf; exact hf.old)).call ?_
  rintro _ w5 ⟨rfl, rfl⟩
  have t1 := (hf.take_ (tlen_le ls)).old
  have l1 : (trimL ls).length = tlen ls := by unfold trimL; rw [List.length_take, Nat.min_eq_left (tlen_le ls)]
  have e1 : ls.take (tlen ls) = blk (x * y) := by rw [← hval]; exact trim_blk hls
  rw [e1] at t1
  rw [l1]
  (conv => whnf)
  refine (nat_limited _ _ _ _ _ _ (hL.ext hf.ext) t1 (blk_len_dd (by have := dd_mul hx hy; omega))).call ?_
  rintro _ w6 ⟨rfl, hE⟩
  (conv => whnf)
  exact ⟨rfl, hf.ext.trans hE⟩
end Go.Proofs.YtfeegacmmfgjfaaGreatDoorX

/-!  The library: strings.CutPrefix and strings.Cut at one byte. -/
set_option linter.unusedVariables false
set_option maxRecDepth 10000
namespace Go.Proofs.YtfeegacmmfgjfaaGreatDoorX
open Go Go.RowKit Go.Proofs Go.Proofs.YtfeegacmmfgjfaaGreatDoorM

theorem index1 (s : List UInt8) (c : UInt8) (w : World) : Ret Tryz.prog 143 #[.string (str s), .string (str [c])] w fun v w' => v = .int .i64 (Lib.indexByte s c) ∧ w' = w := by
  refine Ret.of Tryz.func143 (by kernel_rfl) (by kernel_rfl) ((Tryz.stringslite_Index_one (str s) c w).mono ?_)
  rintro e w' ⟨rfl, rfl⟩
  exact ⟨_, rfl, rfl, rfl⟩
theorem cut_ (s : List UInt8) (c : UInt8) (w : World) (hs : s.length ≤ 9223372036854775806) : Ret Tryz.prog 115 #[.string (str s), .string (str [c])] w fun v w' => v = .tuple #[.string (str (cut1 c s).1), .string (str (cut1 c s).2.1), .bool (cut1 c s).2.2] ∧ Ext w w' := by
  refine fn_ret tok Tryz.func115 (by kernel_rfl) rfl rfl ?_
  (conv => whnf)
  refine (index1 s c w).call ?_
  rintro _ w ⟨rfl, rfl⟩
  (conv => whnf)
  cases hf : (cut1 c s).2.2 with
  | true =>
    obtain ⟨h1, h2⟩ := cut1_yes hf
    have hl := congrArg List.length h2
    rw [List.length_append, List.length_cons] at hl
    generalize (cut1 c s).1 = a at *
    generalize (cut1 c s).2.1 = b at *
    clear hf
    rw [h1]
    refine condP_yes (by omega) ?_
    (conv => whnf)
    have hsz : ((str s).size : Int) = s.length := rfl
    have hsc : ((str [c]).size : Int) = 1 := rfl
    refine draw_read tok mixed (by decide +kernel) ?_
    (repeat ((conv => whnf); first | refine numP_i64 (by omega) ?_ | refine numP_u64 (by omega) ?_ | refine numP_u8 (by omega) ?_ | refine Exists.intro _ (And.intro (fun _ h => (congrArg (fun w => World.cell? w _) h).trans ‹_›) ?_) | refine And.intro (by omega) (Exists.intro _ (And.intro rfl ?_)) | refine And.intro (by omega) ?_)); (conv => whnf)
    rintro _ rfl
    (conv => whnf)
    refine ⟨?_, Chg.drew _ _⟩
    rw [str_extract, str_extract]
    have e1 : ((s.take ((a.length : Nat) : Int).toNat).drop (0 : Int).toNat) = a := by
      rw [show (0 : Int).toNat = 0 from rfl, List.drop_zero, Int.toNat_natCast, h2, List.take_left]
    have e2 : ((s.take ((str s).size : Int).toNat).drop (((a.length : Nat) : Int) + ((str [c]).size : Int)).toNat) = b := by
      rw [hsz, hsc, Int.toNat_natCast, List.take_length, show (((a.length : Nat) : Int) + 1).toNat = a.length + 1 by omega, h2, List.drop_append, List.drop_of_length_le (by omega), show a.length + 1 - a.length = 1 by omega]
      rfl
    rw [e1, e2]
  | false =>
    obtain ⟨h1, h2, h3, _⟩ := cut1_no hf
    rw [h1]
    refine condP_no (by omega) ?_
    (conv => whnf)
    refine ⟨?_, Chg.refl _ _⟩
    rw [h2, h3]
theorem cut (s : List UInt8) (c : UInt8) (w : World) (hs : s.length ≤ 9223372036854775806) : Ret Tryz.prog 75 #[.string (str s), .string (str [c])] w fun v w' => v = .tuple #[.string (str (cut1 c s).1), .string (str (cut1 c s).2.1), .bool (cut1 c s).2.2] ∧ Ext w w' := by
  refine fn_ret tok Tryz.func75 (by kernel_rfl) rfl rfl ?_
  (conv => whnf)
  refine (cut_ s c w hs).call ?_
  rintro _ w' ⟨rfl, hE⟩
  (conv => whnf)
  exact ⟨rfl, hE⟩
theorem cutPrefix_ (s : List UInt8) (c : UInt8) (w : World) (hs : s.length ≤ 9223372036854775806) : Ret Tryz.prog 114 #[.string (str s), .string (str [c])] w fun v w' => v = .tuple #[.string (str (pre1 c s).1), .bool (pre1 c s).2] ∧ w' = w := by
  refine fn_ret tok Tryz.func114 (by kernel_rfl) rfl rfl ?_
  (conv => whnf)
  refine (hasPrefix0 s [c] w (by omega) (by simp)).call ?_
  rintro _ w ⟨rfl, rfl⟩
  have hsz : ((str s).size : Int) = s.length := rfl
  have hsc : ((str [c]).size : Int) = 1 := rfl
  (conv => whnf)
  cases s with
  | nil =>
    rw [show hasPre [] [c] = false from rfl]
    (repeat ((conv => whnf); first | refine numP_i64 (by omega) ?_ | refine numP_u64 (by omega) ?_ | refine numP_u8 (by omega) ?_ | refine Exists.intro _ (And.intro ‹_› ?_) | refine Exists.intro _ (And.intro rfl ?_) | refine And.intro (by omega) (Exists.intro _ (And.intro rfl ?_)) | refine And.intro (by omega) ?_)); (conv => whnf)
    exact ⟨rfl, rfl⟩
  | cons b l =>
    by_cases hb : b = c
    · subst hb
      rw [show hasPre (b :: l) [b] = true by unfold hasPre; simp]
      have h1 : (pre1 b (b :: l)) = (l, true) := by simp [pre1]
      rw [h1]
      simp only [List.length_cons] at hsz
      (repeat ((conv => whnf); first | refine numP_i64 (by omega) ?_ | refine numP_u64 (by omega) ?_ | refine numP_u8 (by omega) ?_ | refine Exists.intro _ (And.intro ‹_› ?_) | refine Exists.intro _ (And.intro rfl ?_) | refine And.intro (by omega) (Exists.intro _ (And.intro rfl ?_)) | refine And.intro (by omega) ?_)); (conv => whnf)
      refine ⟨?_, rfl⟩
      rw [str_extract]
      have : (((b :: l).take ((str (b :: l)).size : Int).toNat).drop ((str [b]).size : Int).toNat) = l := by
        rw [hsz, hsc]
        have e : (((l.length + 1 : Nat) : Int)).toNat = (b :: l).length := by simp
        rw [e, List.take_length]; rfl
      rw [this]
    · have h1 : (pre1 c (b :: l)) = (b :: l, false) := by simp [pre1, hb]
      rw [show hasPre (b :: l) [c] = false by unfold hasPre; simp [hb], h1]
      (repeat ((conv => whnf); first | refine numP_i64 (by omega) ?_ | refine numP_u64 (by omega) ?_ | refine numP_u8 (by omega) ?_ | refine Exists.intro _ (And.intro ‹_› ?_) | refine Exists.intro _ (And.intro rfl ?_) | refine And.intro (by omega) (Exists.intro _ (And.intro rfl ?_)) | refine And.intro (by omega) ?_)); (conv => whnf)
      exact ⟨rfl, rfl⟩
theorem cutPrefix (s : List UInt8) (c : UInt8) (w : World) (hs : s.length ≤ 9223372036854775806) : Ret Tryz.prog 74 #[.string (str s), .string (str [c])] w fun v w' => v = .tuple #[.string (str (pre1 c s).1), .bool (pre1 c s).2] ∧ w' = w := by
  refine fn_ret tok Tryz.func74 (by kernel_rfl) rfl rfl ?_
  (conv => whnf)
  refine (cutPrefix_ s c w hs).call ?_
  rintro _ w ⟨rfl, rfl⟩
  (conv => whnf)
  exact ⟨rfl, rfl⟩
end Go.Proofs.YtfeegacmmfgjfaaGreatDoorX

/-!  Package rat: must, quotient, parse. -/
set_option linter.unusedVariables false
set_option maxRecDepth 10000
namespace Go.Proofs.YtfeegacmmfgjfaaGreatDoorX
open Go Go.RowKit Go.Proofs Go.Proofs.YtfeegacmmfgjfaaGreatDoorM

theorem must_ok (s : ByteArray) (w : World) : Ret Tryz.prog 42 #[.string s, .int .i64 0] w fun v w' => v = .string s ∧ w' = w := by
  refine fn_ret tok Tryz.func42 (by kernel_rfl) rfl rfl ?_
  (conv => whnf)
  refine condP_not (condP_yes rfl ?_)
  (conv => whnf)
  exact ⟨rfl, rfl⟩
theorem quotient (x y : Nat) (w : World) (hL : Laid w) (hx : (dd x).length ≤ 1000) (hy : (dd y).length ≤ 1000) (hy0 : y ≠ 0) : Ret Tryz.prog 132 #[.string (str (dd x)), .string (str (dd y))] w fun v w' => v = .string (str (dd (x / y))) ∧ Ext w w' := by
  refine fn_ret tok Tryz.func132 (by kernel_rfl) rfl rfl ?_
  (conv => whnf)
  refine (nat_Div x y w hL hx hy hy0).call ?_
  rintro _ w1 ⟨rfl, hE⟩
  (conv => whnf)
  refine (must_ok _ w1).call ?_
  rintro _ w2 ⟨rfl, rfl⟩
  (conv => whnf)
  exact ⟨rfl, hE⟩
/-- A number, as Go's struct. -/
def numV (neg : Bool) (n d : List UInt8) : Value := .agg #[.bool neg, .string (str n), .string (str d)]
def ratV (q : Rat) : Value := numV (decide (q.num < 0)) (dd q.num.natAbs) (dd q.den)
structure POk (neg : Bool) (num den : List UInt8) (frac : Bool) : Prop where
  n : isNat num = true
  d : isNat den = true
  ln : num.length ≤ 400
  ld : den.length ≤ 400
  sign : ¬ (neg = true ∧ num = [48])
  one : ¬ (frac = true ∧ (den = [48] ∨ den = [49]))
  gcd : Nat.gcd (dval num) (dval den) = 1
theorem parse (s D num den0 den : List UInt8) (neg frac : Bool) (h1 : pre1 45 s = (D, neg)) (h2 : cut1 47 D = (num, den0, frac)) (hd : den = if frac = true then den0 else [49]) (w : World) (hL : Laid w) (hs : s.length ≤ 1000000) (hD : D.length ≤ 1000000) (hn : num.length ≤ 1000000) (hd0 : den0.length ≤ 1000000) :
    Ret Tryz.prog 40 #[.string (str s)] w fun v w' => (POk neg num den frac → v = .tuple #[numV neg num den, .bool true]) ∧ (¬ POk neg num den frac → v = .tuple #[numV false [] [], .bool false]) ∧ Ext w w' := by
  have hdl : den.length ≤ 1000000 := by rw [hd]; split; exact hd0; simp
  refine fn_ret tok Tryz.func40 (by kernel_rfl) rfl rfl ?_
  (conv => whnf)
  intro b w1 hw
  have hbw : w.heap.size ≤ b := by rw [hw.hb]; exact Nat.le_refl _
  (conv => whnf)
  have hc1 := cutPrefix s 45 w1 (by omega)
  rw [h1] at hc1
  dsimp only at hc1
  refine hc1.call ?_
  rintro _ w1 ⟨rfl, rfl⟩
  have hc2 := cut D 47 w1 (by omega)
  rw [h2] at hc2
  dsimp only at hc2
  (conv => whnf)
  refine hc2.call ?_
  rintro _ w2 ⟨rfl, hE2⟩
  have hE : Ext w w2 := (hw.chg _).trans hE2
  have hbk := hE2.blk hw.blk (fun h => h)
  clear hE2 hw hc1 hc2
  have hN := nat_Valid num w2 (by omega)
  have hV := nat_Valid den w2 (by omega)
  have hsn : ((str num).size : Int) = num.length := rfl
  have hsd : ((str den).size : Int) = den.length := rfl
  cases frac with
  | true =>
    obtain rfl : den = den0 := by rw [hd]; rfl
    cases neg with
    | true =>
      (conv => whnf)
      refine hN.call ?_
      cases hn1 : isNat num with
      | false =>
        rintro _ w3 ⟨rfl, rfl⟩
        (conv => whnf)
        obtain ⟨w8, hr8, hb8, hC8⟩ := store_blk (P := Tryz.prog) (vs := [.bool false, .string (str []), .string (str [])]) hbk rfl (by intro v hv; simp at hv; rcases hv with rfl | rfl | rfl <;> rfl)
        refine ⟨rfl, w8, hr8, ?_⟩
        (conv => whnf)
        refine ⟨_, rfl, cellsAt_blk hb8, ?_⟩
        refine ⟨fun h => ?_, fun _ => rfl, hE.then hC8 fun i hi hm => by omega⟩
        exfalso
        rw [h.n] at hn1; cases hn1
      | true =>
      rintro _ w3 ⟨rfl, rfl⟩
      (conv => whnf)
      refine hV.call ?_
      cases hn2 : isNat _ with
      | false =>
        rintro _ w4 ⟨rfl, rfl⟩
        (conv => whnf)
        obtain ⟨w8, hr8, hb8, hC8⟩ := store_blk (P := Tryz.prog) (vs := [.bool false, .string (str []), .string (str [])]) hbk rfl (by intro v hv; simp at hv; rcases hv with rfl | rfl | rfl <;> rfl)
        refine ⟨rfl, w8, hr8, ?_⟩
        (conv => whnf)
        refine ⟨_, rfl, cellsAt_blk hb8, ?_⟩
        refine ⟨fun h => ?_, fun _ => rfl, hE.then hC8 fun i hi hm => by omega⟩
        exfalso
        rw [h.d] at hn2; cases hn2
      | true =>
      rintro _ w4 ⟨rfl, rfl⟩
      clear hN hV
      (conv => whnf)
      refine condP_dec (fun hl1 => ?_) (fun hl1 => ?_)
      · (conv => whnf)
        obtain ⟨w8, hr8, hb8, hC8⟩ := store_blk (P := Tryz.prog) (vs := [.bool false, .string (str []), .string (str [])]) hbk rfl (by intro v hv; simp at hv; rcases hv with rfl | rfl | rfl <;> rfl)
        refine ⟨rfl, w8, hr8, ?_⟩
        (conv => whnf)
        refine ⟨_, rfl, cellsAt_blk hb8, ?_⟩
        refine ⟨fun h => ?_, fun _ => rfl, hE.then hC8 fun i hi hm => by omega⟩
        exfalso
        have := h.ln; omega
      (conv => whnf)
      refine condP_dec (fun hl2 => ?_) (fun hl2 => ?_)
      · (conv => whnf)
        obtain ⟨w8, hr8, hb8, hC8⟩ := store_blk (P := Tryz.prog) (vs := [.bool false, .string (str []), .string (str [])]) hbk rfl (by intro v hv; simp at hv; rcases hv with rfl | rfl | rfl <;> rfl)
        refine ⟨rfl, w8, hr8, ?_⟩
        (conv => whnf)
        refine ⟨_, rfl, cellsAt_blk hb8, ?_⟩
        refine ⟨fun h => ?_, fun _ => rfl, hE.then hC8 fun i hi hm => by omega⟩
        exfalso
        have := h.ld; omega
      (conv => whnf)
      refine condP_str (b := [48]) (fun hz1 => ?_) (fun hz1 => ?_)
      · (conv => whnf)
        obtain ⟨w8, hr8, hb8, hC8⟩ := store_blk (P := Tryz.prog) (vs := [.bool false, .string (str []), .string (str [])]) hbk rfl (by intro v hv; simp at hv; rcases hv with rfl | rfl | rfl <;> rfl)
        refine ⟨rfl, w8, hr8, ?_⟩
        (conv => whnf)
        refine ⟨_, rfl, cellsAt_blk hb8, ?_⟩
        refine ⟨fun h => ?_, fun _ => rfl, hE.then hC8 fun i hi hm => by omega⟩
        exfalso
        exact h.sign ⟨rfl, hz1⟩
      (conv => whnf)
      refine condP_str (b := [48]) (fun hz2 => ?_) (fun hz2 => ?_)
      · (conv => whnf)
        obtain ⟨w8, hr8, hb8, hC8⟩ := store_blk (P := Tryz.prog) (vs := [.bool false, .string (str []), .string (str [])]) hbk rfl (by intro v hv; simp at hv; rcases hv with rfl | rfl | rfl <;> rfl)
        refine ⟨rfl, w8, hr8, ?_⟩
        (conv => whnf)
        refine ⟨_, rfl, cellsAt_blk hb8, ?_⟩
        refine ⟨fun h => ?_, fun _ => rfl, hE.then hC8 fun i hi hm => by omega⟩
        exfalso
        exact h.one ⟨rfl, .inl hz2⟩
      (conv => whnf)
      refine condP_str (b := [49]) (fun hz3 => ?_) (fun hz3 => ?_)
      · (conv => whnf)
        obtain ⟨w8, hr8, hb8, hC8⟩ := store_blk (P := Tryz.prog) (vs := [.bool false, .string (str []), .string (str [])]) hbk rfl (by intro v hv; simp at hv; rcases hv with rfl | rfl | rfl <;> rfl)
        refine ⟨rfl, w8, hr8, ?_⟩
        (conv => whnf)
        refine ⟨_, rfl, cellsAt_blk hb8, ?_⟩
        refine ⟨fun h => ?_, fun _ => rfl, hE.then hC8 fun i hi hm => by omega⟩
        exfalso
        exact h.one ⟨rfl, .inr hz3⟩
      (conv => whnf)
      have hG := nat_Gcd (dval num) (dval den) w4 (hL.ext hE) (by rw [dd_dval hn1]; omega) (by rw [dd_dval hn2]; omega)
      rw [dd_dval hn1, dd_dval hn2] at hG
      refine hG.call ?_
      rintro _ w5 ⟨rfl, hE5⟩
      have hbk := hE5.blk hbk (fun h => h)
      have hE := hE.trans hE5
      (conv => whnf)
      refine condP_not (condP_yes rfl ?_)
      (conv => whnf)
      refine condP_not (condP_str (b := [49]) (fun hz4 => ?_) (fun hz4 => ?_))
      · (conv => whnf)
        obtain ⟨w8, hr8, hb8, hC8⟩ := store_blk (P := Tryz.prog) (vs := [.bool true, .string (str num), .string (str den)]) hbk rfl (by intro v hv; simp at hv; rcases hv with rfl | rfl | rfl <;> rfl)
        refine ⟨rfl, w8, hr8, ?_⟩
        (conv => whnf)
        refine ⟨_, rfl, cellsAt_blk hb8, ?_⟩
        refine ⟨fun _ => rfl, fun hno => absurd ⟨hn1, hn2, by omega, by omega, (fun h => hz1 h.2), (fun h => h.2.elim hz2 hz3), ?_⟩ hno, hE.then hC8 fun i hi hm => by omega⟩
        have := congrArg dval hz4
        rw [dval_dd] at this
        exact this
      · (conv => whnf)
        obtain ⟨w8, hr8, hb8, hC8⟩ := store_blk (P := Tryz.prog) (vs := [.bool false, .string (str []), .string (str [])]) hbk rfl (by intro v hv; simp at hv; rcases hv with rfl | rfl | rfl <;> rfl)
        refine ⟨rfl, w8, hr8, ?_⟩
        (conv => whnf)
        refine ⟨_, rfl, cellsAt_blk hb8, ?_⟩
        refine ⟨fun h => ?_, fun _ => rfl, hE.then hC8 fun i hi hm => by omega⟩
        exfalso
        rw [h.gcd] at hz4
        exact hz4 (dd_small (by omega))
    | false =>
      (conv => whnf)
      refine hN.call ?_
      cases hn1 : isNat num with
      | false =>
        rintro _ w3 ⟨rfl, rfl⟩
        (conv => whnf)
        obtain ⟨w8, hr8, hb8, hC8⟩ := store_blk (P := Tryz.prog) (vs := [.bool false, .string (str []), .string (str [])]) hbk rfl (by intro v hv; simp at hv; rcases hv with rfl | rfl | rfl <;> rfl)
        refine ⟨rfl, w8, hr8, ?_⟩
        (conv => whnf)
        refine ⟨_, rfl, cellsAt_blk hb8, ?_⟩
        refine ⟨fun h => ?_, fun _ => rfl, hE.then hC8 fun i hi hm => by omega⟩
        exfalso
        rw [h.n] at hn1; cases hn1
      | true =>
      rintro _ w3 ⟨rfl, rfl⟩
      (conv => whnf)
      refine hV.call ?_
      cases hn2 : isNat _ with
      | false =>
        rintro _ w4 ⟨rfl, rfl⟩
        (conv => whnf)
        obtain ⟨w8, hr8, hb8, hC8⟩ := store_blk (P := Tryz.prog) (vs := [.bool false, .string (str []), .string (str [])]) hbk rfl (by intro v hv; simp at hv; rcases hv with rfl | rfl | rfl <;> rfl)
        refine ⟨rfl, w8, hr8, ?_⟩
        (conv => whnf)
        refine ⟨_, rfl, cellsAt_blk hb8, ?_⟩
        refine ⟨fun h => ?_, fun _ => rfl, hE.then hC8 fun i hi hm => by omega⟩
        exfalso
        rw [h.d] at hn2; cases hn2
      | true =>
      rintro _ w4 ⟨rfl, rfl⟩
      clear hN hV
      (conv => whnf)
      refine condP_dec (fun hl1 => ?_) (fun hl1 => ?_)
      · (conv => whnf)
        obtain ⟨w8, hr8, hb8, hC8⟩ := store_blk (P := Tryz.prog) (vs := [.bool false, .string (str []), .string (str [])]) hbk rfl (by intro v hv; simp at hv; rcases hv with rfl | rfl | rfl <;> rfl)
        refine ⟨rfl, w8, hr8, ?_⟩
        (conv => whnf)
        refine ⟨_, rfl, cellsAt_blk hb8, ?_⟩
        refine ⟨fun h => ?_, fun _ => rfl, hE.then hC8 fun i hi hm => by omega⟩
        exfalso
        have := h.ln; omega
      (conv => whnf)
      refine condP_dec (fun hl2 => ?_) (fun hl2 => ?_)
      · (conv => whnf)
        obtain ⟨w8, hr8, hb8, hC8⟩ := store_blk (P := Tryz.prog) (vs := [.bool false, .string (str []), .string (str [])]) hbk rfl (by intro v hv; simp at hv; rcases hv with rfl | rfl | rfl <;> rfl)
        refine ⟨rfl, w8, hr8, ?_⟩
        (conv => whnf)
        refine ⟨_, rfl, cellsAt_blk hb8, ?_⟩
        refine ⟨fun h => ?_, fun _ => rfl, hE.then hC8 fun i hi hm => by omega⟩
        exfalso
        have := h.ld; omega
      (conv => whnf)
      refine condP_str (b := [48]) (fun hz2 => ?_) (fun hz2 => ?_)
      · (conv => whnf)
        obtain ⟨w8, hr8, hb8, hC8⟩ := store_blk (P := Tryz.prog) (vs := [.bool false, .string (str []), .string (str [])]) hbk rfl (by intro v hv; simp at hv; rcases hv with rfl | rfl | rfl <;> rfl)
        refine ⟨rfl, w8, hr8, ?_⟩
        (conv => whnf)
        refine ⟨_, rfl, cellsAt_blk hb8, ?_⟩
        refine ⟨fun h => ?_, fun _ => rfl, hE.then hC8 fun i hi hm => by omega⟩
        exfalso
        exact h.one ⟨rfl, .inl hz2⟩
      (conv => whnf)
      refine condP_str (b := [49]) (fun hz3 => ?_) (fun hz3 => ?_)
      · (conv => whnf)
        obtain ⟨w8, hr8, hb8, hC8⟩ := store_blk (P := Tryz.prog) (vs := [.bool false, .string (str []), .string (str [])]) hbk rfl (by intro v hv; simp at hv; rcases hv with rfl | rfl | rfl <;> rfl)
        refine ⟨rfl, w8, hr8, ?_⟩
        (conv => whnf)
        refine ⟨_, rfl, cellsAt_blk hb8, ?_⟩
        refine ⟨fun h => ?_, fun _ => rfl, hE.then hC8 fun i hi hm => by omega⟩
        exfalso
        exact h.one ⟨rfl, .inr hz3⟩
      (conv => whnf)
      have hG := nat_Gcd (dval num) (dval den) w4 (hL.ext hE) (by rw [dd_dval hn1]; omega) (by rw [dd_dval hn2]; omega)
      rw [dd_dval hn1, dd_dval hn2] at hG
      refine hG.call ?_
      rintro _ w5 ⟨rfl, hE5⟩
      have hbk := hE5.blk hbk (fun h => h)
      have hE := hE.trans hE5
      (conv => whnf)
      refine condP_not (condP_yes rfl ?_)
      (conv => whnf)
      refine condP_not (condP_str (b := [49]) (fun hz4 => ?_) (fun hz4 => ?_))
      · (conv => whnf)
        obtain ⟨w8, hr8, hb8, hC8⟩ := store_blk (P := Tryz.prog) (vs := [.bool false, .string (str num), .string (str den)]) hbk rfl (by intro v hv; simp at hv; rcases hv with rfl | rfl | rfl <;> rfl)
        refine ⟨rfl, w8, hr8, ?_⟩
        (conv => whnf)
        refine ⟨_, rfl, cellsAt_blk hb8, ?_⟩
        refine ⟨fun _ => rfl, fun hno => absurd ⟨hn1, hn2, by omega, by omega, (fun h => by obtain ⟨e, _⟩ := h; cases e), (fun h => h.2.elim hz2 hz3), ?_⟩ hno, hE.then hC8 fun i hi hm => by omega⟩
        have := congrArg dval hz4
        rw [dval_dd] at this
        exact this
      · (conv => whnf)
        obtain ⟨w8, hr8, hb8, hC8⟩ := store_blk (P := Tryz.prog) (vs := [.bool false, .string (str []), .string (str [])]) hbk rfl (by intro v hv; simp at hv; rcases hv with rfl | rfl | rfl <;> rfl)
        refine ⟨rfl, w8, hr8, ?_⟩
        (conv => whnf)
        refine ⟨_, rfl, cellsAt_blk hb8, ?_⟩
        refine ⟨fun h => ?_, fun _ => rfl, hE.then hC8 fun i hi hm => by omega⟩
        exfalso
        rw [h.gcd] at hz4
        exact hz4 (dd_small (by omega))
  | false =>
    obtain rfl : den = [49] := by rw [hd]; rfl
    cases neg with
    | true =>
      (conv => whnf)
      refine hN.call ?_
      cases hn1 : isNat num with
      | false =>
        rintro _ w3 ⟨rfl, rfl⟩
        (conv => whnf)
        obtain ⟨w8, hr8, hb8, hC8⟩ := store_blk (P := Tryz.prog) (vs := [.bool false, .string (str []), .string (str [])]) hbk rfl (by intro v hv; simp at hv; rcases hv with rfl | rfl | rfl <;> rfl)
        refine ⟨rfl, w8, hr8, ?_⟩
        (conv => whnf)
        refine ⟨_, rfl, cellsAt_blk hb8, ?_⟩
        refine ⟨fun h => ?_, fun _ => rfl, hE.then hC8 fun i hi hm => by omega⟩
        exfalso
        rw [h.n] at hn1; cases hn1
      | true =>
      rintro _ w3 ⟨rfl, rfl⟩
      (conv => whnf)
      refine hV.call ?_
      cases hn2 : isNat _ with
      | false =>
        rintro _ w4 ⟨rfl, rfl⟩
        (conv => whnf)
        obtain ⟨w8, hr8, hb8, hC8⟩ := store_blk (P := Tryz.prog) (vs := [.bool false, .string (str []), .string (str [])]) hbk rfl (by intro v hv; simp at hv; rcases hv with rfl | rfl | rfl <;> rfl)
        refine ⟨rfl, w8, hr8, ?_⟩
        (conv => whnf)
        refine ⟨_, rfl, cellsAt_blk hb8, ?_⟩
        refine ⟨fun h => ?_, fun _ => rfl, hE.then hC8 fun i hi hm => by omega⟩
        exfalso
        exact absurd hn2 (by decide)
      | true =>
      rintro _ w4 ⟨rfl, rfl⟩
      clear hN hV
      (conv => whnf)
      refine condP_dec (fun hl1 => ?_) (fun hl1 => ?_)
      · (conv => whnf)
        obtain ⟨w8, hr8, hb8, hC8⟩ := store_blk (P := Tryz.prog) (vs := [.bool false, .string (str []), .string (str [])]) hbk rfl (by intro v hv; simp at hv; rcases hv with rfl | rfl | rfl <;> rfl)
        refine ⟨rfl, w8, hr8, ?_⟩
        (conv => whnf)
        refine ⟨_, rfl, cellsAt_blk hb8, ?_⟩
        refine ⟨fun h => ?_, fun _ => rfl, hE.then hC8 fun i hi hm => by omega⟩
        exfalso
        have := h.ln; omega
      (conv => whnf)
      refine condP_dec (fun hl2 => ?_) (fun hl2 => ?_)
      · (conv => whnf)
        obtain ⟨w8, hr8, hb8, hC8⟩ := store_blk (P := Tryz.prog) (vs := [.bool false, .string (str []), .string (str [])]) hbk rfl (by intro v hv; simp at hv; rcases hv with rfl | rfl | rfl <;> rfl)
        refine ⟨rfl, w8, hr8, ?_⟩
        (conv => whnf)
        refine ⟨_, rfl, cellsAt_blk hb8, ?_⟩
        refine ⟨fun h => ?_, fun _ => rfl, hE.then hC8 fun i hi hm => by omega⟩
        exfalso
        exact absurd hl2 (by decide)
      (conv => whnf)
      refine condP_str (b := [48]) (fun hz1 => ?_) (fun hz1 => ?_)
      · (conv => whnf)
        obtain ⟨w8, hr8, hb8, hC8⟩ := store_blk (P := Tryz.prog) (vs := [.bool false, .string (str []), .string (str [])]) hbk rfl (by intro v hv; simp at hv; rcases hv with rfl | rfl | rfl <;> rfl)
        refine ⟨rfl, w8, hr8, ?_⟩
        (conv => whnf)
        refine ⟨_, rfl, cellsAt_blk hb8, ?_⟩
        refine ⟨fun h => ?_, fun _ => rfl, hE.then hC8 fun i hi hm => by omega⟩
        exfalso
        exact h.sign ⟨rfl, hz1⟩
      (conv => whnf)
      have hG := nat_Gcd (dval num) (dval [49]) w4 (hL.ext hE) (by rw [dd_dval hn1]; omega) (by rw [dd_dval hn2]; decide)
      rw [dd_dval hn1, dd_dval hn2] at hG
      refine hG.call ?_
      rintro _ w5 ⟨rfl, hE5⟩
      have hbk := hE5.blk hbk (fun h => h)
      have hE := hE.trans hE5
      (conv => whnf)
      refine condP_not (condP_yes rfl ?_)
      (conv => whnf)
      refine condP_not (condP_str (b := [49]) (fun hz4 => ?_) (fun hz4 => ?_))
      · (conv => whnf)
        obtain ⟨w8, hr8, hb8, hC8⟩ := store_blk (P := Tryz.prog) (vs := [.bool true, .string (str num), .string (str [49])]) hbk rfl (by intro v hv; simp at hv; rcases hv with rfl | rfl | rfl <;> rfl)
        refine ⟨rfl, w8, hr8, ?_⟩
        (conv => whnf)
        refine ⟨_, rfl, cellsAt_blk hb8, ?_⟩
        refine ⟨fun _ => rfl, fun hno => absurd ⟨hn1, hn2, by omega, by decide, (fun h => hz1 h.2), (fun h => by obtain ⟨e, _⟩ := h; cases e), ?_⟩ hno, hE.then hC8 fun i hi hm => by omega⟩
        have := congrArg dval hz4
        rw [dval_dd] at this
        exact this
      · (conv => whnf)
        obtain ⟨w8, hr8, hb8, hC8⟩ := store_blk (P := Tryz.prog) (vs := [.bool false, .string (str []), .string (str [])]) hbk rfl (by intro v hv; simp at hv; rcases hv with rfl | rfl | rfl <;> rfl)
        refine ⟨rfl, w8, hr8, ?_⟩
        (conv => whnf)
        refine ⟨_, rfl, cellsAt_blk hb8, ?_⟩
        refine ⟨fun h => ?_, fun _ => rfl, hE.then hC8 fun i hi hm => by omega⟩
        exfalso
        rw [h.gcd] at hz4
        exact hz4 (dd_small (by omega))
    | false =>
      (conv => whnf)
      refine hN.call ?_
      cases hn1 : isNat num with
      | false =>
        rintro _ w3 ⟨rfl, rfl⟩
        (conv => whnf)
        obtain ⟨w8, hr8, hb8, hC8⟩ := store_blk (P := Tryz.prog) (vs := [.bool false, .string (str []), .string (str [])]) hbk rfl (by intro v hv; simp at hv; rcases hv with rfl | rfl | rfl <;> rfl)
        refine ⟨rfl, w8, hr8, ?_⟩
        (conv => whnf)
        refine ⟨_, rfl, cellsAt_blk hb8, ?_⟩
        refine ⟨fun h => ?_, fun _ => rfl, hE.then hC8 fun i hi hm => by omega⟩
        exfalso
        rw [h.n] at hn1; cases hn1
      | true =>
      rintro _ w3 ⟨rfl, rfl⟩
      (conv => whnf)
      refine hV.call ?_
      cases hn2 : isNat _ with
      | false =>
        rintro _ w4 ⟨rfl, rfl⟩
        (conv => whnf)
        obtain ⟨w8, hr8, hb8, hC8⟩ := store_blk (P := Tryz.prog) (vs := [.bool false, .string (str []), .string (str [])]) hbk rfl (by intro v hv; simp at hv; rcases hv with rfl | rfl | rfl <;> rfl)
        refine ⟨rfl, w8, hr8, ?_⟩
        (conv => whnf)
        refine ⟨_, rfl, cellsAt_blk hb8, ?_⟩
        refine ⟨fun h => ?_, fun _ => rfl, hE.then hC8 fun i hi hm => by omega⟩
        exfalso
        exact absurd hn2 (by decide)
      | true =>
      rintro _ w4 ⟨rfl, rfl⟩
      clear hN hV
      (conv => whnf)
      refine condP_dec (fun hl1 => ?_) (fun hl1 => ?_)
      · (conv => whnf)
        obtain ⟨w8, hr8, hb8, hC8⟩ := store_blk (P := Tryz.prog) (vs := [.bool false, .string (str []), .string (str [])]) hbk rfl (by intro v hv; simp at hv; rcases hv with rfl | rfl | rfl <;> rfl)
        refine ⟨rfl, w8, hr8, ?_⟩
        (conv => whnf)
        refine ⟨_, rfl, cellsAt_blk hb8, ?_⟩
        refine ⟨fun h => ?_, fun _ => rfl, hE.then hC8 fun i hi hm => by omega⟩
        exfalso
        have := h.ln; omega
      (conv => whnf)
      refine condP_dec (fun hl2 => ?_) (fun hl2 => ?_)
      · (conv => whnf)
        obtain ⟨w8, hr8, hb8, hC8⟩ := store_blk (P := Tryz.prog) (vs := [.bool false, .string (str []), .string (str [])]) hbk rfl (by intro v hv; simp at hv; rcases hv with rfl | rfl | rfl <;> rfl)
        refine ⟨rfl, w8, hr8, ?_⟩
        (conv => whnf)
        refine ⟨_, rfl, cellsAt_blk hb8, ?_⟩
        refine ⟨fun h => ?_, fun _ => rfl, hE.then hC8 fun i hi hm => by omega⟩
        exfalso
        exact absurd hl2 (by decide)
      (conv => whnf)
      have hG := nat_Gcd (dval num) (dval [49]) w4 (hL.ext hE) (by rw [dd_dval hn1]; omega) (by rw [dd_dval hn2]; decide)
      rw [dd_dval hn1, dd_dval hn2] at hG
      refine hG.call ?_
      rintro _ w5 ⟨rfl, hE5⟩
      have hbk := hE5.blk hbk (fun h => h)
      have hE := hE.trans hE5
      (conv => whnf)
      refine condP_not (condP_yes rfl ?_)
      (conv => whnf)
      refine condP_not (condP_str (b := [49]) (fun hz4 => ?_) (fun hz4 => ?_))
      · (conv => whnf)
        obtain ⟨w8, hr8, hb8, hC8⟩ := store_blk (P := Tryz.prog) (vs := [.bool false, .string (str num), .string (str [49])]) hbk rfl (by intro v hv; simp at hv; rcases hv with rfl | rfl | rfl <;> rfl)
        refine ⟨rfl, w8, hr8, ?_⟩
        (conv => whnf)
        refine ⟨_, rfl, cellsAt_blk hb8, ?_⟩
        refine ⟨fun _ => rfl, fun hno => absurd ⟨hn1, hn2, by omega, by decide, (fun h => by obtain ⟨e, _⟩ := h; cases e), (fun h => by obtain ⟨e, _⟩ := h; cases e), ?_⟩ hno, hE.then hC8 fun i hi hm => by omega⟩
        have := congrArg dval hz4
        rw [dval_dd] at this
        exact this
      · (conv => whnf)
        obtain ⟨w8, hr8, hb8, hC8⟩ := store_blk (P := Tryz.prog) (vs := [.bool false, .string (str []), .string (str [])]) hbk rfl (by intro v hv; simp at hv; rcases hv with rfl | rfl | rfl <;> rfl)
        refine ⟨rfl, w8, hr8, ?_⟩
        (conv => whnf)
        refine ⟨_, rfl, cellsAt_blk hb8, ?_⟩
        refine ⟨fun h => ?_, fun _ => rfl, hE.then hC8 fun i hi hm => by omega⟩
        exfalso
        rw [h.gcd] at hz4
        exact hz4 (dd_small (by omega))
end Go.Proofs.YtfeegacmmfgjfaaGreatDoorX

/-!  Package rat: the numbers; Valid; reduce. -/
set_option linter.unusedVariables false
set_option maxRecDepth 10000
namespace Go.Proofs.YtfeegacmmfgjfaaGreatDoorX
open Go Go.RowKit Go.Proofs Go.Proofs.YtfeegacmmfgjfaaGreatDoorM

theorem dd_one : dd 1 = [49] := dd_small (by omega)
theorem dd_zero : dd 0 = [48] := dd_small (by omega)
theorem dd_inj {a b : Nat} (h : dd a = dd b) : a = b := by rw [← dval_dd a, h, dval_dd]
theorem pok_q (q : Rat) (hq : Short q) : POk (decide (q.num < 0)) (dd q.num.natAbs) (dd q.den) (!decide (q.den = 1)) := by
  refine ⟨isNat_dd (by have := hq.num; omega), isNat_dd (by have := hq.den; omega), hq.num, hq.den, fun ⟨h1, h2⟩ => ?_, fun ⟨h1, h2⟩ => ?_, by rw [dval_dd, dval_dd]; exact q.reduced⟩
  · have h3 := of_decide_eq_true h1
    have h4 := dd_inj (h2.trans dd_zero.symm)
    omega
  · have h3 : q.den ≠ 1 := by
      intro e
      rw [decide_eq_true e] at h1
      cases h1
    rcases h2 with h2 | h2
    · exact q.den_nz (dd_inj (h2.trans dd_zero.symm))
    · exact h3 (dd_inj (h2.trans dd_one.symm))
theorem qtxt_len (q : Rat) (hq : Short q) : (qtxt q).length ≤ 802 := by
  have h1 := hq.num
  have h2 := hq.den
  unfold qtxt
  rw [List.length_append, List.length_append]
  have h3 : (if q.num < 0 then [45] else ([] : List UInt8)).length ≤ 1 := by split <;> simp
  have h4 : (if q.den = 1 then [] else (47 : UInt8) :: dd q.den).length ≤ 401 := by split <;> simp <;> omega
  omega
theorem parse_q (q : Rat) (w : World) (hL : Laid w) (hq : Short q) : Ret Tryz.prog 40 #[.string (str (qtxt q))] w fun v w' => v = .tuple #[ratV q, .bool true] ∧ Ext w w' := by
  have h0 := qtxt_len q hq
  have h1 := hq.num
  have h2 := hq.den
  have h4 : (if q.den = 1 then [] else (47 : UInt8) :: dd q.den).length ≤ 401 := by split <;> simp <;> omega
  have h5 : (if q.den = 1 then [] else dd q.den).length ≤ 1000000 := by
    split
    · simp
    · omega
  refine (parse (qtxt q) _ _ _ (dd q.den) _ _ (pre1_q q) (cut1_q q) ?_ w hL (by omega) (by rw [List.length_append]; omega) (by omega) h5).mono ?_
  · by_cases h : q.den = 1
    · rw [decide_eq_true h, h, dd_one]; rfl
    · rw [decide_eq_false h, if_neg h]; rfl
  · rintro v w' ⟨hv, _, hE⟩
    exact ⟨hv (pok_q q hq), hE⟩
theorem cut1_len (c : UInt8) (s : List UInt8) : (cut1 c s).1.length ≤ s.length ∧ (cut1 c s).2.1.length ≤ s.length := by
  induction s with
  | nil => simp [cut1]
  | cons b l ih =>
    simp only [cut1]
    split
    · simp
    · simp only [List.length_cons]; omega
theorem pre1_len (c : UInt8) (s : List UInt8) : (pre1 c s).1.length ≤ s.length := by
  cases s with
  | nil => simp [pre1]
  | cons b l => simp only [pre1]; split <;> simp
theorem pre1_back {c : UInt8} {s D : List UInt8} {n : Bool} (h : pre1 c s = (D, n)) : s = (if n = true then [c] else []) ++ D := by
  cases s with
  | nil => simp [pre1] at h; obtain ⟨rfl, rfl⟩ := h; rfl
  | cons b l =>
    simp only [pre1] at h
    split at h
    · rename_i hb; cases h; simp [hb]
    · cases h; rfl
theorem rat_of (s D num den0 : List UInt8) (neg frac : Bool) (h1 : pre1 45 s = (D, neg)) (h2 : cut1 47 D = (num, den0, frac)) (h : POk neg num (if frac = true then den0 else [49]) frac) :
    ∃ q : Rat, Short q ∧ s = qtxt q ∧ numV neg num (if frac = true then den0 else [49]) = ratV q := by
  have hs := pre1_back h1
  have en := dd_dval h.n
  have ed := dd_dval h.d
  generalize hden : (if frac = true then den0 else [49]) = den at *
  have hdn : dval den ≠ 0 := by
    intro e
    rw [e, dd_zero] at ed
    cases frac with
    | true => exact h.one ⟨rfl, .inl ed.symm⟩
    | false =>
      have : den = [49] := hden.symm
      rw [this] at ed; revert ed; decide
  refine ⟨⟨if neg = true then -(dval num : Int) else dval num, dval den, hdn, ?_⟩, ?_⟩
  · have := h.gcd
    split
    · rw [Int.natAbs_neg]; exact this
    · exact this
  have hab : (if neg = true then -(dval num : Int) else dval num).natAbs = dval num := by
    split
    · rw [Int.natAbs_neg]; rfl
    · rfl
  have hsg : decide ((if neg = true then -(dval num : Int) else dval num) < 0) = neg := by
    cases neg with
    | true =>
      have : dval num ≠ 0 := by
        intro e
        rw [e, dd_zero] at en
        exact h.sign ⟨rfl, en.symm⟩
      rw [if_pos rfl]
      exact decide_eq_true (by omega)
    | false =>
      rw [if_neg (by decide)]
      exact decide_eq_false (by omega)
  refine ⟨⟨?_, ?_⟩, ?_, ?_⟩
  · show (dd (if neg = true then -(dval num : Int) else dval num).natAbs).length ≤ 400
    rw [hab, en]; exact h.ln
  · show (dd (dval den)).length ≤ 400
    rw [ed]; exact h.ld
  · show s = (if (if neg = true then -(dval num : Int) else dval num) < 0 then [45] else []) ++ (dd (if neg = true then -(dval num : Int) else dval num).natAbs ++ (if dval den = 1 then [] else 47 :: dd (dval den)))
    rw [hab, en, ed, hs]
    have e1 : (if (if neg = true then -(dval num : Int) else dval num) < 0 then [45] else ([] : List UInt8)) = if neg = true then [45] else [] := by
      cases neg with
      | true => rw [if_pos (of_decide_eq_true hsg), if_pos rfl]
      | false => rw [if_neg (of_decide_eq_false hsg), if_neg (by decide)]
    rw [e1]
    congr 1
    cases frac with
    | true =>
      have hf : (cut1 47 D).2.2 = true := by rw [h2]
      have := (cut1_yes hf).2
      rw [h2] at this
      have hd1 : dval den ≠ 1 := by
        intro e
        rw [e, dd_one] at ed
        exact h.one ⟨rfl, .inr ed.symm⟩
      rw [if_neg hd1, this, ← hden]
      rfl
    | false =>
      have hf : (cut1 47 D).2.2 = false := by rw [h2]
      have := (cut1_no hf).2.1
      rw [h2] at this
      have hd1 : dval den = 1 := by rw [← hden]; rfl
      rw [if_pos hd1, List.append_nil]
      exact this.symm
  · show numV neg num den = numV (decide ((if neg = true then -(dval num : Int) else dval num) < 0)) (dd (if neg = true then -(dval num : Int) else dval num).natAbs) (dd (dval den))
    rw [hab, en, ed, hsg]
/-- Whatever the string. -/
theorem parse_any (s : List UInt8) (w : World) (hL : Laid w) (hs : s.length ≤ 1000000) : Ret Tryz.prog 40 #[.string (str s)] w fun v w' => Ext w w' ∧ ((∃ q, Short q ∧ s = qtxt q ∧ v = .tuple #[ratV q, .bool true]) ∨ ((∀ q, Short q → s ≠ qtxt q) ∧ v = .tuple #[numV false [] [], .bool false])) := by
  have h1 := pre1_len 45 s
  have h2 := cut1_len 47 (pre1 45 s).1
  refine (parse s (pre1 45 s).1 (cut1 47 (pre1 45 s).1).1 (cut1 47 (pre1 45 s).1).2.1 _ (pre1 45 s).2 (cut1 47 (pre1 45 s).1).2.2 rfl rfl rfl w hL hs (by omega) (by omega) (by omega)).mono ?_
  rintro v w' ⟨hy, hn, hE⟩
  refine ⟨hE, ?_⟩
  by_cases h : POk (pre1 45 s).2 (cut1 47 (pre1 45 s).1).1 (if (cut1 47 (pre1 45 s).1).2.2 = true then (cut1 47 (pre1 45 s).1).2.1 else [49]) (cut1 47 (pre1 45 s).1).2.2
  · obtain ⟨q, hq, he, hv⟩ := rat_of s (pre1 45 s).1 (cut1 47 (pre1 45 s).1).1 (cut1 47 (pre1 45 s).1).2.1 (pre1 45 s).2 (cut1 47 (pre1 45 s).1).2.2 rfl rfl h
    exact .inl ⟨q, hq, he, by rw [hy h, hv]⟩
  · refine .inr ⟨fun q hq he => h ?_, hn h⟩
    have e1 := pre1_q q
    have e2 := cut1_q q
    rw [← he] at e1
    rw [e1]
    dsimp only
    rw [e2]
    dsimp only
    have e3 : (if (!decide (q.den = 1)) = true then (if q.den = 1 then [] else dd q.den) else [49]) = dd q.den := by
      by_cases h : q.den = 1
      · rw [decide_eq_true h, h, dd_one]; rfl
      · rw [decide_eq_false h, if_neg h]; rfl
    rw [e3]
    exact pok_q q hq
theorem rat_Valid (s : List UInt8) (w : World) (hL : Laid w) (hs : s.length ≤ 1000000) : Ret Tryz.prog 19 #[.string (str s)] w fun v w' => Ext w w' ∧ ((∃ q, Short q ∧ s = qtxt q ∧ v = .bool true) ∨ ((∀ q, Short q → s ≠ qtxt q) ∧ v = .bool false)) := by
  refine fn_ret tok Tryz.func19 (by kernel_rfl) rfl rfl ?_
  (conv => whnf)
  refine (parse_any s w hL hs).call ?_
  rintro v w1 ⟨hE, ⟨q, hq, he, rfl⟩ | ⟨hn, rfl⟩⟩
  · (conv => whnf)
    exact ⟨hE, .inl ⟨q, hq, he, rfl⟩⟩
  · (conv => whnf)
    exact ⟨hE, .inr ⟨hn, rfl⟩⟩
end Go.Proofs.YtfeegacmmfgjfaaGreatDoorX

/-!  Package rat: reduce, plus, text. -/
set_option linter.unusedVariables false
set_option maxRecDepth 10000
namespace Go.Proofs.YtfeegacmmfgjfaaGreatDoorX
open Go Go.RowKit Go.Proofs Go.Proofs.YtfeegacmmfgjfaaGreatDoorM

theorem reduce (neg : Bool) (n d : Nat) (w : World) (hL : Laid w) (hd0 : d ≠ 0) (hn : (dd n).length ≤ 400) (hd : (dd d).length ≤ 400) : Ret Tryz.prog 88 #[.bool neg, .string (str (dd n)), .string (str (dd d))] w fun v w' => v = numV (neg && !decide (n = 0)) (dd (n / Nat.gcd n d)) (dd (d / Nat.gcd n d)) ∧ Ext w w' := by
  have hg0 : Nat.gcd n d ≠ 0 := by
    intro e
    exact hd0 (Nat.eq_zero_of_gcd_eq_zero_right e)
  have hgl : (dd (Nat.gcd n d)).length ≤ 400 := Nat.le_trans (dd_mono (Nat.gcd_le_right n (by omega))) hd
  have hn2 : (dd (n / Nat.gcd n d)).length ≤ 400 := Nat.le_trans (dd_mono (Nat.div_le_self _ _)) hn
  have hd2 : (dd (d / Nat.gcd n d)).length ≤ 400 := Nat.le_trans (dd_mono (Nat.div_le_self _ _)) hd
  refine fn_ret tok Tryz.func88 (by kernel_rfl) rfl rfl ?_
  (conv => whnf)
  intro b w0 hw
  have hE0 : Ext w w0 := hw.chg _
  (conv => whnf)
  refine (nat_Gcd n d w0 (hL.ext hE0) (by omega) (by omega)).call ?_
  rintro _ w1 ⟨rfl, hE1⟩
  have hb1 := hE1.blk hw.blk (fun h => h)
  have hbw : w.heap.size ≤ b := by rw [hw.hb]; exact Nat.le_refl _
  have hE1 := hE0.trans hE1
  clear hE0 hw
  (conv => whnf)
  refine (must_ok _ w1).call ?_
  rintro _ w1 ⟨rfl, rfl⟩
  cases neg with
  | false =>
    have hsg : (false && !decide (n = 0)) = false := rfl
    (conv => whnf)
    refine (quotient n (Nat.gcd n d) _ (hL.ext hE1) (by omega) (by omega) hg0).call ?_
    rintro _ w2 ⟨rfl, hE2⟩
    (conv => whnf)
    refine (quotient d (Nat.gcd n d) _ ((hL.ext hE1).ext hE2) (by omega) (by omega) hg0).call ?_
    rintro _ w3 ⟨rfl, hE3⟩
    have hE3 := hE2.trans hE3
    (conv => whnf)
    intro b2 w4 hw4
    have hbb : b2 ≠ b := by have := hw4.hb; have := hE3.size; have := (Array.getElem?_eq_some_iff.1 hb1).1; omega
    have hb2 : w.heap.size ≤ b2 := by rw [hw4.hb]; exact (hE1.trans hE3).size
    obtain ⟨w5, hr5, hb5, hC5⟩ := store_blk (P := Tryz.prog) (vs := [.bool false, .string (str (dd (n / Nat.gcd n d))), .string (str (dd (d / Nat.gcd n d)))]) hw4.blk rfl (by intro v hv; simp at hv; rcases hv with rfl | rfl | rfl <;> rfl)
    have hb15 := hC5.blk ((hE3.trans (hw4.chg No)).blk hb1 (fun h => h)) (fun e => hbb e.symm)
    have hE5 : Ext w w5 := ((hE1.trans hE3).trans (hw4.chg No)).then hC5 (fun i hi hm => by omega)
    have c1 : w5.cell? ((⟨b2, 0, none⟩ : Addr).add 1) = some (.string (str (dd (n / Nat.gcd n d)))) := by rw [addr_add, cell_of_blk hb5]; rfl
    have c2 : w5.cell? ((⟨b2, 0, none⟩ : Addr).add 2) = some (.string (str (dd (d / Nat.gcd n d)))) := by rw [addr_add, cell_of_blk hb5]; rfl
    have s1 : ((str (dd (n / Nat.gcd n d))).size : Int) = (dd (n / Nat.gcd n d)).length := rfl
    have s2 : ((str (dd (d / Nat.gcd n d))).size : Int) = (dd (d / Nat.gcd n d)).length := rfl
    obtain ⟨w6, hr6, hb6, hC6⟩ := store_blk (P := Tryz.prog) (vs := [.bool false, .string (str (dd (n / Nat.gcd n d))), .string (str (dd (d / Nat.gcd n d)))]) hb15 rfl (by intro v hv; simp at hv; rcases hv with rfl | rfl | rfl <;> rfl)
    generalize dd (n / Nat.gcd n d) = dn at *
    generalize dd (d / Nat.gcd n d) = dm at *
    (conv => whnf)
    refine ⟨rfl, w5, hr5, ?_⟩
    (repeat ((conv => whnf); first | refine numP_i64 (by omega) ?_ | refine numP_u64 (by omega) ?_ | refine numP_u8 (by omega) ?_ | refine Exists.intro _ (And.intro ‹_› ?_) | refine Exists.intro _ (And.intro rfl ?_) | refine And.intro (by omega) (Exists.intro _ (And.intro rfl ?_)) | refine And.intro (by omega) ?_ | refine condP_yes (by omega) ?_ | refine condP_no (by omega) ?_)); (conv => whnf)
    refine ⟨_, rfl, cellsAt_blk hb5, ?_⟩
    (conv => whnf)
    refine ⟨rfl, w6, hr6, ?_⟩
    (conv => whnf)
    refine ⟨_, rfl, cellsAt_blk hb6, ?_⟩
    exact ⟨by rw [hsg]; rfl, hE5.then hC6 fun i hi hm => by omega⟩
  | true =>
    (conv => whnf)
    have hsg : (true && !decide (n = 0)) = bnot (strEq (str (dd n)) (str [48])) := by
      rw [strEq_str, bnot_eq]
      by_cases h : n = 0
      · rw [decide_eq_true h, decide_eq_true (by rw [h, dd_zero])]; rfl
      · rw [decide_eq_false h, decide_eq_false (fun e => h (dd_inj (e.trans dd_zero.symm)))]; rfl
    refine (quotient n (Nat.gcd n d) _ (hL.ext hE1) (by omega) (by omega) hg0).call ?_
    rintro _ w2 ⟨rfl, hE2⟩
    (conv => whnf)
    refine (quotient d (Nat.gcd n d) _ ((hL.ext hE1).ext hE2) (by omega) (by omega) hg0).call ?_
    rintro _ w3 ⟨rfl, hE3⟩
    have hE3 := hE2.trans hE3
    (conv => whnf)
    intro b2 w4 hw4
    have hbb : b2 ≠ b := by have := hw4.hb; have := hE3.size; have := (Array.getElem?_eq_some_iff.1 hb1).1; omega
    have hb2 : w.heap.size ≤ b2 := by rw [hw4.hb]; exact (hE1.trans hE3).size
    obtain ⟨w5, hr5, hb5, hC5⟩ := store_blk (P := Tryz.prog) (vs := [.bool (bnot (strEq (str (dd n)) (str [48]))), .string (str (dd (n / Nat.gcd n d))), .string (str (dd (d / Nat.gcd n d)))]) hw4.blk rfl (by intro v hv; simp at hv; rcases hv with rfl | rfl | rfl <;> rfl)
    have hb15 := hC5.blk ((hE3.trans (hw4.chg No)).blk hb1 (fun h => h)) (fun e => hbb e.symm)
    have hE5 : Ext w w5 := ((hE1.trans hE3).trans (hw4.chg No)).then hC5 (fun i hi hm => by omega)
    have c1 : w5.cell? ((⟨b2, 0, none⟩ : Addr).add 1) = some (.string (str (dd (n / Nat.gcd n d)))) := by rw [addr_add, cell_of_blk hb5]; rfl
    have c2 : w5.cell? ((⟨b2, 0, none⟩ : Addr).add 2) = some (.string (str (dd (d / Nat.gcd n d)))) := by rw [addr_add, cell_of_blk hb5]; rfl
    have s1 : ((str (dd (n / Nat.gcd n d))).size : Int) = (dd (n / Nat.gcd n d)).length := rfl
    have s2 : ((str (dd (d / Nat.gcd n d))).size : Int) = (dd (d / Nat.gcd n d)).length := rfl
    obtain ⟨w6, hr6, hb6, hC6⟩ := store_blk (P := Tryz.prog) (vs := [.bool (bnot (strEq (str (dd n)) (str [48]))), .string (str (dd (n / Nat.gcd n d))), .string (str (dd (d / Nat.gcd n d)))]) hb15 rfl (by intro v hv; simp at hv; rcases hv with rfl | rfl | rfl <;> rfl)
    generalize dd (n / Nat.gcd n d) = dn at *
    generalize dd (d / Nat.gcd n d) = dm at *
    (conv => whnf)
    refine ⟨rfl, w5, hr5, ?_⟩
    (repeat ((conv => whnf); first | refine numP_i64 (by omega) ?_ | refine numP_u64 (by omega) ?_ | refine numP_u8 (by omega) ?_ | refine Exists.intro _ (And.intro ‹_› ?_) | refine Exists.intro _ (And.intro rfl ?_) | refine And.intro (by omega) (Exists.intro _ (And.intro rfl ?_)) | refine And.intro (by omega) ?_ | refine condP_yes (by omega) ?_ | refine condP_no (by omega) ?_)); (conv => whnf)
    refine ⟨_, rfl, cellsAt_blk hb5, ?_⟩
    (conv => whnf)
    refine ⟨rfl, w6, hr6, ?_⟩
    (conv => whnf)
    refine ⟨_, rfl, cellsAt_blk hb6, ?_⟩
    exact ⟨by rw [hsg]; rfl, hE5.then hC6 fun i hi hm => by omega⟩
end Go.Proofs.YtfeegacmmfgjfaaGreatDoorX

/-!  Package rat: plus, text. -/
set_option linter.unusedVariables false
set_option maxRecDepth 10000
namespace Go.Proofs.YtfeegacmmfgjfaaGreatDoorX
open Go Go.RowKit Go.Proofs Go.Proofs.YtfeegacmmfgjfaaGreatDoorM

def sI (s : Bool) (x : Nat) : Int := if s = true then -(x : Int) else x
theorem plus (s t : Bool) (x y : Nat) (w : World) (hL : Laid w) (hx : (dd x).length ≤ 999) (hy : (dd y).length ≤ 999) : Ret Tryz.prog 41 #[.bool s, .string (str (dd x)), .bool t, .string (str (dd y))] w fun v w' =>
    Ext w w' ∧ ∃ sg, v = .tuple #[.bool sg, .string (str (dd (sI s x + sI t y).natAbs))] ∧ (sI s x + sI t y ≠ 0 → sg = decide (sI s x + sI t y < 0)) := by
  refine fn_ret tok Tryz.func41 (by kernel_rfl) rfl rfl ?_
  (conv => whnf)
  by_cases hst : s = t
  · subst hst
    have e : beqb s s = true := by unfold beqb; simp
    rw [e]
    have hxy : (dd (x + y)).length ≤ 1000 := dd_add hx hy
    (conv => whnf)
    refine (nat_Add x y w hL (by omega) (by omega)).call ?_
    rw [limS_ok hxy, limE_ok hxy]
    rintro _ w1 ⟨rfl, hE⟩
    (conv => whnf)
    refine (must_ok _ w1).call ?_
    rintro _ w1 ⟨rfl, rfl⟩
    (conv => whnf)
    refine ⟨hE, s, ?_, fun h => ?_⟩
    · have : (sI s x + sI s y).natAbs = x + y := by unfold sI; split <;> omega
      rw [this]
    · cases s with
      | true => exact (decide_eq_true (by unfold sI at *; rw [if_pos rfl, if_pos rfl] at *; omega)).symm
      | false => exact (decide_eq_false (by unfold sI at *; rw [if_neg (by decide), if_neg (by decide)] at *; omega)).symm
  · have e : beqb s t = false := by unfold beqb; simpa using hst
    rw [e]
    have hC := nat_Cmp (dd x) (dd y) w (isNat_dd (by omega)) (isNat_dd (by omega))
    rw [dval_dd, dval_dd] at hC
    (conv => whnf)
    refine hC.call ?_
    rintro _ w1 ⟨rfl, hE1⟩
    have hts : t = !s := by cases s <;> cases t <;> simp_all
    subst hts
    (conv => whnf)
    refine condP_dec (fun h => ?_) (fun h => ?_)
    · have hlt : x < y := by
        unfold cmpN at h
        split at h
        · assumption
        · split at h <;> omega
      (conv => whnf)
      refine (nat_Sub y x w1 (hL.ext hE1) (by omega) (by omega) (by omega)).call ?_
      rintro _ w2 ⟨rfl, hE2⟩
      (conv => whnf)
      refine (must_ok _ w2).call ?_
      rintro _ w2 ⟨rfl, rfl⟩
      (conv => whnf)
      refine ⟨hE1.trans hE2, !s, ?_, fun h => ?_⟩
      · have : (sI s x + sI (!s) y).natAbs = y - x := by unfold sI; cases s <;> simp <;> omega
        rw [this]
      · cases s with
        | true => exact (decide_eq_false (by unfold sI; simp; omega)).symm
        | false => exact (decide_eq_true (by unfold sI; simp; omega)).symm
    · have hge : y ≤ x := by
        rcases Nat.lt_or_ge x y with h1 | h1
        · exact absurd (by rw [cmpN_lt h1]; omega) h
        · exact h1
      (conv => whnf)
      refine (nat_Sub x y w1 (hL.ext hE1) (by omega) (by omega) hge).call ?_
      rintro _ w2 ⟨rfl, hE2⟩
      (conv => whnf)
      refine (must_ok _ w2).call ?_
      rintro _ w2 ⟨rfl, rfl⟩
      (conv => whnf)
      refine ⟨hE1.trans hE2, s, ?_, fun h => ?_⟩
      · have : (sI s x + sI (!s) y).natAbs = x - y := by unfold sI; cases s <;> simp <;> omega
        rw [this]
      · cases s with
        | true => exact (decide_eq_true (by unfold sI at *; simp at *; omega)).symm
        | false => exact (decide_eq_false (by unfold sI at *; simp at *; omega)).symm
theorem text (q : Rat) (w : World) (hq : Short q) : Ret Tryz.prog 158 #[ratV q] w fun v w' => v = .string (str (qtxt q)) ∧ Ext w w' := by
  refine fn_ret tok Tryz.func158 (by kernel_rfl) rfl rfl ?_
  (conv => whnf)
  intro b w1 hw
  have hE : Ext w w1 := hw.chg _
  have hb := hw.blk
  have c0 : w1.cell? ((⟨b, 0, none⟩ : Addr).add 0) = some (.bool (decide (q.num < 0))) := by rw [addr_add, cell_of_blk hb]; rfl
  have c1 : w1.cell? ((⟨b, 0, none⟩ : Addr).add 1) = some (.string (str (dd q.num.natAbs))) := by rw [addr_add, cell_of_blk hb]; rfl
  have c2 : w1.cell? ((⟨b, 0, none⟩ : Addr).add 2) = some (.string (str (dd q.den))) := by rw [addr_add, cell_of_blk hb]; rfl
  have h1 := hq.num
  have h2 := hq.den
  have s1 : ((str (dd q.num.natAbs)).size : Int) = (dd q.num.natAbs).length := rfl
  have s2 : ((str (dd q.den)).size : Int) = (dd q.den).length := rfl
  have s3 : ((str [45]).size : Int) = 1 := rfl
  have s4 : ((str [47]).size : Int) = 1 := rfl
  have szA : ∀ a b : List UInt8, (str a ++ str b).size = a.length + b.length := fun a b => by rw [str_append, str_size, List.length_append]
  have eq : qtxt q = (if q.num < 0 then [45] else []) ++ (dd q.num.natAbs ++ (if q.den = 1 then [] else 47 :: dd q.den)) := rfl
  (repeat ((conv => whnf); first | refine numP_i64 (by omega) ?_ | refine numP_u64 (by omega) ?_ | refine numP_u8 (by omega) ?_ | refine Exists.intro _ (And.intro ‹_› ?_) | refine Exists.intro _ (And.intro rfl ?_) | refine And.intro (by omega) (Exists.intro _ (And.intro rfl ?_)) | refine And.intro (by omega) ?_)); (conv => whnf)
  by_cases hn : q.num < 0
  · rw [decide_eq_true hn]
    rw [if_pos hn] at eq
    (conv => whnf)
    refine ⟨by rw [str_size, str_size]; simp; omega, ?_⟩
    (repeat ((conv => whnf); first | refine numP_i64 (by omega) ?_ | refine numP_u64 (by omega) ?_ | refine numP_u8 (by omega) ?_ | refine Exists.intro _ (And.intro ‹_› ?_) | refine Exists.intro _ (And.intro rfl ?_) | refine And.intro (by omega) (Exists.intro _ (And.intro rfl ?_)) | refine And.intro (by omega) ?_)); (conv => whnf)
    refine condP_not (condP_str (b := [49]) (fun hz => ?_) (fun hz => ?_))
    · rw [if_pos (dd_inj (hz.trans dd_one.symm)), List.append_nil] at eq
      (conv => whnf)
      exact ⟨by rw [eq, ← str_append], hE⟩
    · rw [if_neg (fun e => hz (by rw [e, dd_one]))] at eq
      (repeat ((conv => whnf); first | refine numP_i64 (by omega) ?_ | refine numP_u64 (by omega) ?_ | refine numP_u8 (by omega) ?_ | refine Exists.intro _ (And.intro ‹_› ?_) | refine Exists.intro _ (And.intro rfl ?_) | refine And.intro (by omega) (Exists.intro _ (And.intro rfl ?_)) | refine And.intro (by omega) ?_)); (conv => whnf)
      refine ⟨by rw [str_size, str_size]; simp; omega, ?_⟩
      (conv => whnf)
      refine ⟨by rw [szA, szA]; simp; omega, ?_⟩
      (conv => whnf)
      refine ⟨?_, hE⟩
      rw [eq]
      show Value.string ((str [45] ++ str (dd q.num.natAbs)) ++ (str [47] ++ str (dd q.den))) = _
      rw [str_append, str_append, str_append]
      simp
  · rw [decide_eq_false hn]
    rw [if_neg hn, List.nil_append] at eq
    (repeat ((conv => whnf); first | refine numP_i64 (by omega) ?_ | refine numP_u64 (by omega) ?_ | refine numP_u8 (by omega) ?_ | refine Exists.intro _ (And.intro ‹_› ?_) | refine Exists.intro _ (And.intro rfl ?_) | refine And.intro (by omega) (Exists.intro _ (And.intro rfl ?_)) | refine And.intro (by omega) ?_)); (conv => whnf)
    refine condP_not (condP_str (b := [49]) (fun hz => ?_) (fun hz => ?_))
    · rw [if_pos (dd_inj (hz.trans dd_one.symm)), List.append_nil] at eq
      (conv => whnf)
      exact ⟨by rw [eq], hE⟩
    · rw [if_neg (fun e => hz (by rw [e, dd_one]))] at eq
      (repeat ((conv => whnf); first | refine numP_i64 (by omega) ?_ | refine numP_u64 (by omega) ?_ | refine numP_u8 (by omega) ?_ | refine Exists.intro _ (And.intro ‹_› ?_) | refine Exists.intro _ (And.intro rfl ?_) | refine And.intro (by omega) (Exists.intro _ (And.intro rfl ?_)) | refine And.intro (by omega) ?_)); (conv => whnf)
      refine ⟨by rw [str_size, str_size]; simp; omega, ?_⟩
      (conv => whnf)
      refine ⟨by rw [szA, str_size]; simp; omega, ?_⟩
      (conv => whnf)
      refine ⟨?_, hE⟩
      rw [eq]
      show Value.string (str (dd q.num.natAbs) ++ (str [47] ++ str (dd q.den))) = _
      rw [str_append, str_append]
      simp
end Go.Proofs.YtfeegacmmfgjfaaGreatDoorX

/-!  Package rat: the product. -/
set_option linter.unusedVariables false
set_option maxRecDepth 10000
namespace Go.Proofs.YtfeegacmmfgjfaaGreatDoorX
open Go Go.RowKit Go.Proofs Go.Proofs.YtfeegacmmfgjfaaGreatDoorM

theorem nat_Mul_ok (x y : Nat) (w : World) (hL : Laid w) (k l : Nat) (hx : (dd x).length ≤ k) (hy : (dd y).length ≤ l) (hkl : k + l ≤ 1000) : Ret Tryz.prog 43 #[.string (str (dd x)), .string (str (dd y))] w fun v w' => v = .tuple #[.string (str (dd (x * y))), .int .i64 0] ∧ Ext w w' := by
  have h := nat_Mul x y w hL (by omega) (by omega)
  have hxy : (dd (x * y)).length ≤ 1000 := Nat.le_trans (dd_mul hx hy) hkl
  rw [limS_ok hxy, limE_ok hxy] at h
  exact h
/-- The product's struct, before anything is known of it as a number. -/
theorem mul1 (p q : Rat) (w : World) (hL : Laid w) (hp : (dd p.num.natAbs).length ≤ 200 ∧ (dd p.den).length ≤ 200) (hq : (dd q.num.natAbs).length ≤ 200 ∧ (dd q.den).length ≤ 200) :
    Ret Tryz.prog 87 #[ratV p, ratV q] w fun v w' => v = numV (bnot (beqb (decide (p.num < 0)) (decide (q.num < 0))) && !decide (p.num.natAbs * q.num.natAbs = 0)) (dd (p.num.natAbs * q.num.natAbs / Nat.gcd (p.num.natAbs * q.num.natAbs) (p.den * q.den))) (dd (p.den * q.den / Nat.gcd (p.num.natAbs * q.num.natAbs) (p.den * q.den))) ∧ Ext w w' := by
  refine fn_ret tok Tryz.func87 (by kernel_rfl) rfl rfl ?_
  (conv => whnf)
  intro b1 w1 hw1
  (conv => whnf)
  intro b2 w2 hw2
  (conv => whnf)
  intro b3 w3 hw3
  have hb1 := (hw3.chg No).blk ((hw2.chg No).blk hw1.blk (fun h => h)) (fun h => h)
  have hb2 := (hw3.chg No).blk hw2.blk (fun h => h)
  have hb3 := hw3.blk
  have hE : Ext w w3 := ((hw1.chg No).trans (hw2.chg No)).trans (hw3.chg No)
  have hn3 : w.heap.size ≤ b3 := by rw [hw3.hb]; exact ((hw1.chg No).trans (hw2.chg No)).size
  have hne1 : b1 ≠ b3 := by have := hw1.hb; have := hw3.hb; have := hw1.size; have := hw2.size; omega
  have hne2 : b2 ≠ b3 := by have := hw2.hb; have := hw3.hb; have := hw2.size; omega
  have hdp := p.den_nz
  have hdq := q.den_nz
  (conv => whnf)
  refine draw_held tok mixed (fun w' => w'.heap[b1]? = some (.cells (cellsOf (ratV p)).toArray 92 (0, 0)) ∧ w'.heap[b2]? = some (.cells (cellsOf (ratV q)).toArray 92 (0, 0)))
    (ones [0, 1, 2, 3, 4, 5, 6, 7, 8, 13, 14, 15, 16] (.alt 9 (ones [10, 11] (.alt 12 (.alt 17 (ones [18, 19] (.alt 20 (.alt 21 (.alt 22 .done .nil) .nil) .nil)) .nil) .nil)) .nil)) (by decide +kernel) (by decide +kernel) ⟨hb1, hb2⟩ ?_
  (conv => whnf)
  refine ⟨_, fun w' h => (by rw [addr_add, cell_of_blk h.1]; rfl), ?_⟩
  (conv => whnf)
  refine ⟨_, fun w' h => (by rw [addr_add, cell_of_blk h.2]; rfl), ?_⟩
  (conv => whnf)
  refine ⟨_, fun w' h => (by rw [addr_add, cell_of_blk h.1]; rfl), ?_⟩
  (conv => whnf)
  refine ⟨_, fun w' h => (by rw [addr_add, cell_of_blk h.2]; rfl), ?_⟩
  (conv => whnf)
  refine ⟨_, fun w' h => (by rw [addr_add, cell_of_blk h.1]; rfl), ?_⟩
  (conv => whnf)
  refine ⟨_, fun w' h => (by rw [addr_add, cell_of_blk h.2]; rfl), ?_⟩
  (conv => whnf)
  refine ⟨?_, trivial⟩
  have hL3 := (hL.ext hE).ext (Chg.drew No w3)
  have hE3 := hE.trans (Chg.drew No w3)
  refine (nat_Mul_ok p.num.natAbs q.num.natAbs _ hL3 200 200 hp.1 hq.1 (by omega)).call ?_
  rintro _ w4 ⟨rfl, hE4⟩
  have hb1 := hE4.blk (w := w3.drew) hb1 (fun h => h)
  have hb2 := hE4.blk (w := w3.drew) hb2 (fun h => h)
  have hb3 := hE4.blk (w := w3.drew) hb3 (fun h => h)
  have hL4 := hL3.ext hE4
  have hE4 := hE3.trans hE4
  (conv => whnf)
  refine ⟨⟨hb1, hb2⟩, ?_⟩
  (conv => whnf)
  refine ⟨?_, trivial⟩
  refine (must_ok _ w4).call ?_
  rintro _ w4 ⟨rfl, rfl⟩
  (conv => whnf)
  refine ⟨⟨hb1, hb2⟩, ?_⟩
  (conv => whnf)
  refine ⟨?_, trivial⟩
  refine (nat_Mul_ok p.den q.den _ hL4 200 200 hp.2 hq.2 (by omega)).call ?_
  rintro _ w5 ⟨rfl, hE5⟩
  have hb1 := hE5.blk hb1 (fun h => h)
  have hb2 := hE5.blk hb2 (fun h => h)
  have hb3 := hE5.blk hb3 (fun h => h)
  have hL5 := hL4.ext hE5
  have hE5 := hE4.trans hE5
  (conv => whnf)
  refine ⟨⟨hb1, hb2⟩, ?_⟩
  (conv => whnf)
  refine ⟨?_, trivial⟩
  refine (must_ok _ w5).call ?_
  rintro _ w5 ⟨rfl, rfl⟩
  (conv => whnf)
  refine ⟨⟨hb1, hb2⟩, ?_⟩
  (conv => whnf)
  refine ⟨?_, trivial⟩
  refine (reduce _ (p.num.natAbs * q.num.natAbs) (p.den * q.den) w5 hL5 (Nat.mul_ne_zero hdp hdq) (Nat.le_trans (dd_mul hp.1 hq.1) (by omega)) (Nat.le_trans (dd_mul hp.2 hq.2) (by omega))).call ?_
  rintro _ w6 ⟨rfl, hE6⟩
  have hb1 := hE6.blk hb1 (fun h => h)
  have hb2 := hE6.blk hb2 (fun h => h)
  have hb3 := hE6.blk hb3 (fun h => h)
  have hE6 := hE5.trans hE6
  (conv => whnf)
  refine ⟨⟨hb1, hb2⟩, ?_⟩
  (conv => whnf)
  refine ⟨?_, trivial⟩
  generalize (bnot (beqb (decide (p.num < 0)) (decide (q.num < 0))) && !decide (p.num.natAbs * q.num.natAbs = 0)) = sg
  generalize dd (p.num.natAbs * q.num.natAbs / Nat.gcd (p.num.natAbs * q.num.natAbs) (p.den * q.den)) = dn
  generalize dd (p.den * q.den / Nat.gcd (p.num.natAbs * q.num.natAbs) (p.den * q.den)) = dm
  obtain ⟨w7, hr7, hb7, hC7⟩ := store_blk (P := Tryz.prog) (vs := [.bool sg, .string (str dn), .string (str dm)]) hb3 rfl (by intro v hv; simp at hv; rcases hv with rfl | rfl | rfl <;> rfl)
  (conv => whnf)
  refine ⟨rfl, w7, hr7, ⟨hC7.blk hb1 hne1, hC7.blk hb2 hne2⟩, ?_⟩
  (conv => whnf)
  refine ⟨_, rfl, cellsAt_blk hb7, ?_⟩
  exact ⟨rfl, hE6.then hC7 fun i hi hm => by omega⟩
end Go.Proofs.YtfeegacmmfgjfaaGreatDoorX

/-!  Package rat: what is reduced is the number. -/
set_option linter.unusedVariables false
namespace Go.Proofs.YtfeegacmmfgjfaaGreatDoorX
open Go Go.RowKit Go.Proofs Go.Proofs.YtfeegacmmfgjfaaGreatDoorM
theorem ratV_norm (neg : Bool) (n d : Nat) (hd : d ≠ 0) (z : Int) (hz : z.natAbs = n) (hs : z ≠ 0 → neg = decide (z < 0)) : numV (neg && !decide (n = 0)) (dd (n / Nat.gcd n d)) (dd (d / Nat.gcd n d)) = ratV (Rat.normalize z d hd) := by
  subst hz
  have hg : 0 < Nat.gcd z.natAbs d := Nat.gcd_pos_of_pos_right _ (by omega)
  have hdv : ((Nat.gcd z.natAbs d : Nat) : Int) ∣ z := by
    rw [← Int.natAbs_dvd_natAbs, Int.natAbs_natCast]
    exact Nat.gcd_dvd_left _ _
  unfold ratV
  rw [Rat.normalize_eq]
  show numV _ _ _ = numV (decide (z / ((Nat.gcd z.natAbs d : Nat) : Int) < 0)) (dd (z / ((Nat.gcd z.natAbs d : Nat) : Int)).natAbs) (dd (d / Nat.gcd z.natAbs d))
  generalize Nat.gcd z.natAbs d = g at *
  obtain ⟨c, rfl⟩ := hdv
  have e1 : ((g : Int) * c) / (g : Int) = c := Int.mul_ediv_cancel_left _ (by omega)
  rw [e1, Int.natAbs_mul, Int.natAbs_natCast, Nat.mul_div_cancel_left _ hg]
  congr 1
  by_cases hc : c = 0
  · subst hc
    simp
  · have h1 : (g : Int) * c ≠ 0 := Int.mul_ne_zero (by omega) hc
    have h2 : g * c.natAbs ≠ 0 := Nat.mul_ne_zero (by omega) (by omega)
    rw [hs h1, decide_eq_false h2]
    have h3 : ((g : Int) * c < 0) ↔ c < 0 := by
      constructor
      · intro h
        by_cases h4 : c < 0
        · exact h4
        · have h4 : 0 ≤ c := by omega
          have := Int.mul_nonneg (show (0 : Int) ≤ g by omega) h4; omega
      · intro h
        exact Int.mul_neg_of_pos_of_neg (by omega) h
    have h4 : decide ((g : Int) * c < 0) = decide (c < 0) := decide_eq_decide.2 h3
    rw [h4]
    simp
theorem mul1_ (p q : Rat) (w : World) (hL : Laid w) (hp : (dd p.num.natAbs).length ≤ 200 ∧ (dd p.den).length ≤ 200) (hq : (dd q.num.natAbs).length ≤ 200 ∧ (dd q.den).length ≤ 200) :
    Ret Tryz.prog 87 #[ratV p, ratV q] w fun v w' => v = ratV (p * q) ∧ Ext w w' := by
  have h := mul1 p q w hL hp hq
  rw [ratV_norm _ _ _ (Nat.mul_ne_zero p.den_nz q.den_nz) (p.num * q.num) (Int.natAbs_mul _ _) ?_, ← Rat.mul_def] at h
  · exact h
  · intro hne
    have hp0 : p.num ≠ 0 := fun e => hne (by rw [e, Int.zero_mul])
    have hq0 : q.num ≠ 0 := fun e => hne (by rw [e, Int.mul_zero])
    unfold beqb
    rw [bnot_eq]
    by_cases h1 : p.num < 0 <;> by_cases h2 : q.num < 0
    · rw [decide_eq_true h1, decide_eq_true h2, decide_eq_false (by have := Int.mul_pos_of_neg_of_neg h1 h2; omega)]; rfl
    · rw [decide_eq_true h1, decide_eq_false h2, decide_eq_true (Int.mul_neg_of_neg_of_pos h1 (by omega))]; rfl
    · rw [decide_eq_false h1, decide_eq_true h2, decide_eq_true (Int.mul_neg_of_pos_of_neg (by omega) h2)]; rfl
    · rw [decide_eq_false h1, decide_eq_false h2, decide_eq_false (by have := Int.mul_pos (show 0 < p.num by omega) (show 0 < q.num by omega); omega)]; rfl
end Go.Proofs.YtfeegacmmfgjfaaGreatDoorX

/-!  Package rat: the sum. -/
set_option linter.unusedVariables false
set_option maxRecDepth 10000
namespace Go.Proofs.YtfeegacmmfgjfaaGreatDoorX
open Go Go.RowKit Go.Proofs Go.Proofs.YtfeegacmmfgjfaaGreatDoorM

theorem sI_num (p : Rat) (k : Nat) : sI (decide (p.num < 0)) (p.num.natAbs * k) = p.num * k := by
  unfold sI
  by_cases h : p.num < 0
  · rw [decide_eq_true h, if_pos rfl, Int.natCast_mul, ← Int.neg_mul]
    congr 1; omega
  · rw [decide_eq_false h, if_neg (by decide), Int.natCast_mul]
    congr 1; omega
theorem add1 (p q : Rat) (w : World) (hL : Laid w) (hp : (dd p.num.natAbs).length ≤ 190 ∧ (dd p.den).length ≤ 190) (hq : (dd q.num.natAbs).length ≤ 190 ∧ (dd q.den).length ≤ 190) :
    Ret Tryz.prog 90 #[ratV p, ratV q] w fun v w' => v = ratV (p + q) ∧ Ext w w' := by
  refine fn_ret tok Tryz.func90 (by kernel_rfl) rfl rfl ?_
  (conv => whnf)
  intro b1 w1 hw1
  (conv => whnf)
  intro b2 w2 hw2
  (conv => whnf)
  intro b3 w3 hw3
  have hb1 := (hw3.chg No).blk ((hw2.chg No).blk hw1.blk (fun h => h)) (fun h => h)
  have hb2 := (hw3.chg No).blk hw2.blk (fun h => h)
  have hb3 := hw3.blk
  have hE : Ext w w3 := ((hw1.chg No).trans (hw2.chg No)).trans (hw3.chg No)
  have hn3 : w.heap.size ≤ b3 := by rw [hw3.hb]; exact ((hw1.chg No).trans (hw2.chg No)).size
  have hne1 : b1 ≠ b3 := by have := hw1.hb; have := hw3.hb; have := hw1.size; have := hw2.size; omega
  have hne2 : b2 ≠ b3 := by have := hw2.hb; have := hw3.hb; have := hw2.size; omega
  have hdp := p.den_nz
  have hdq := q.den_nz
  (conv => whnf)
  refine draw_held tok mixed (fun w' => w'.heap[b1]? = some (.cells (cellsOf (ratV p)).toArray 92 (0, 0)) ∧ w'.heap[b2]? = some (.cells (cellsOf (ratV q)).toArray 92 (0, 0)))
    (ones [0, 1, 2, 3, 4, 5, 10, 11, 12, 13, 14, 15] (.alt 6 (ones [7, 8] (.alt 9 (.alt 16 (ones [17, 18] (.alt 19 (.alt 20 (ones [21, 22, 23, 24, 25] .done) .nil) .nil)) .nil) .nil)) .nil)) (by decide +kernel) (by decide +kernel) ⟨hb1, hb2⟩ ?_
  (conv => whnf)
  refine ⟨_, fun w' h => (by rw [addr_add, cell_of_blk h.1]; rfl), ?_⟩
  (conv => whnf)
  refine ⟨_, fun w' h => (by rw [addr_add, cell_of_blk h.1]; rfl), ?_⟩
  (conv => whnf)
  refine ⟨_, fun w' h => (by rw [addr_add, cell_of_blk h.2]; rfl), ?_⟩
  (conv => whnf)
  refine ⟨_, fun w' h => (by rw [addr_add, cell_of_blk h.2]; rfl), ?_⟩
  (conv => whnf)
  refine ⟨_, fun w' h => (by rw [addr_add, cell_of_blk h.2]; rfl), ?_⟩
  (conv => whnf)
  refine ⟨_, fun w' h => (by rw [addr_add, cell_of_blk h.1]; rfl), ?_⟩
  (conv => whnf)
  refine ⟨?_, trivial⟩
  have hL3 := (hL.ext hE).ext (Chg.drew No w3)
  have hE3 := hE.trans (Chg.drew No w3)
  refine (nat_Mul_ok p.num.natAbs q.den _ hL3 190 190 hp.1 hq.2 (by omega)).call ?_
  rintro _ w4 ⟨rfl, hE4⟩
  have hb1 := hE4.blk (w := w3.drew) hb1 (fun h => h)
  have hb2 := hE4.blk (w := w3.drew) hb2 (fun h => h)
  have hb3 := hE4.blk (w := w3.drew) hb3 (fun h => h)
  have hL4 := hL3.ext hE4
  have hE4 := hE3.trans hE4
  (conv => whnf)
  refine ⟨⟨hb1, hb2⟩, ?_⟩
  (conv => whnf)
  refine ⟨?_, trivial⟩
  refine (must_ok _ w4).call ?_
  rintro _ w4 ⟨rfl, rfl⟩
  (conv => whnf)
  refine ⟨⟨hb1, hb2⟩, ?_⟩
  (conv => whnf)
  refine ⟨?_, trivial⟩
  refine (nat_Mul_ok q.num.natAbs p.den _ hL4 190 190 hq.1 hp.2 (by omega)).call ?_
  rintro _ w5 ⟨rfl, hE5⟩
  have hb1 := hE5.blk hb1 (fun h => h)
  have hb2 := hE5.blk hb2 (fun h => h)
  have hb3 := hE5.blk hb3 (fun h => h)
  have hL5 := hL4.ext hE5
  have hE5 := hE4.trans hE5
  (conv => whnf)
  refine ⟨⟨hb1, hb2⟩, ?_⟩
  (conv => whnf)
  refine ⟨?_, trivial⟩
  refine (must_ok _ w5).call ?_
  rintro _ w5 ⟨rfl, rfl⟩
  (conv => whnf)
  refine ⟨⟨hb1, hb2⟩, ?_⟩
  (conv => whnf)
  refine ⟨?_, trivial⟩
  have hl1 : (dd (p.num.natAbs * q.den)).length ≤ 380 := dd_mul hp.1 hq.2
  have hl2 : (dd (q.num.natAbs * p.den)).length ≤ 380 := dd_mul hq.1 hp.2
  refine (plus _ _ (p.num.natAbs * q.den) (q.num.natAbs * p.den) w5 hL5 (by omega) (by omega)).call ?_
  rw [sI_num, sI_num]
  rintro _ w6 ⟨hE6, sg, rfl, hsg⟩
  have hb1 := hE6.blk hb1 (fun h => h)
  have hb2 := hE6.blk hb2 (fun h => h)
  have hb3 := hE6.blk hb3 (fun h => h)
  have hL6 := hL5.ext hE6
  have hE6 := hE5.trans hE6
  (conv => whnf)
  refine ⟨⟨hb1, hb2⟩, ?_⟩
  (conv => whnf)
  have c1 : w6.cell? ((⟨b1, 0, none⟩ : Addr).add 2) = some (.string (str (dd p.den))) := by rw [addr_add, cell_of_blk hb1]; rfl
  have c2 : w6.cell? ((⟨b2, 0, none⟩ : Addr).add 2) = some (.string (str (dd q.den))) := by rw [addr_add, cell_of_blk hb2]; rfl
  (repeat ((conv => whnf); first | refine numP_i64 (by omega) ?_ | refine numP_u64 (by omega) ?_ | refine numP_u8 (by omega) ?_ | refine Exists.intro _ (And.intro ‹_› ?_) | refine Exists.intro _ (And.intro rfl ?_) | refine And.intro (by omega) (Exists.intro _ (And.intro rfl ?_)) | refine And.intro (by omega) ?_)); (conv => whnf)
  refine (nat_Mul_ok p.den q.den _ hL6 190 190 hp.2 hq.2 (by omega)).call ?_
  rintro _ w7 ⟨rfl, hE7⟩
  have hb3 := hE7.blk hb3 (fun h => h)
  have hL7 := hL6.ext hE7
  have hE7 := hE6.trans hE7
  (conv => whnf)
  refine (must_ok _ w7).call ?_
  rintro _ w7 ⟨rfl, rfl⟩
  (conv => whnf)
  have hlz : (dd (p.num * (q.den : Int) + q.num * (p.den : Int)).natAbs).length ≤ 400 := by
    have h1 : (p.num * (q.den : Int) + q.num * (p.den : Int)).natAbs ≤ p.num.natAbs * q.den + q.num.natAbs * p.den := by
      refine Nat.le_trans (Int.natAbs_add_le _ _) ?_
      rw [Int.natAbs_mul, Int.natAbs_mul]
      exact Nat.le_refl _
    have h2 := dd_mono h1
    have h3 := dd_add hl1 hl2
    omega
  refine (reduce sg _ (p.den * q.den) w7 hL7 (Nat.mul_ne_zero hdp hdq) hlz (Nat.le_trans (dd_mul hp.2 hq.2) (by omega))).call ?_
  rw [ratV_norm sg _ _ (Nat.mul_ne_zero hdp hdq) (p.num * (q.den : Int) + q.num * (p.den : Int)) rfl hsg, ← Rat.add_def]
  rintro _ w8 ⟨rfl, hE8⟩
  have hb3 := hE8.blk hb3 (fun h => h)
  have hE8 := hE7.trans hE8
  obtain ⟨w9, hr9, hb9, hC9⟩ := store_blk (P := Tryz.prog) (vs := [.bool (decide ((p + q).num < 0)), .string (str (dd (p + q).num.natAbs)), .string (str (dd (p + q).den))]) hb3 rfl (by intro v hv; simp at hv; rcases hv with rfl | rfl | rfl <;> rfl)
  (conv => whnf)
  refine ⟨rfl, w9, hr9, ?_⟩
  (conv => whnf)
  refine ⟨_, rfl, cellsAt_blk hb9, ?_⟩
  exact ⟨rfl, hE8.then hC9 fun i hi hm => by omega⟩
end Go.Proofs.YtfeegacmmfgjfaaGreatDoorX
