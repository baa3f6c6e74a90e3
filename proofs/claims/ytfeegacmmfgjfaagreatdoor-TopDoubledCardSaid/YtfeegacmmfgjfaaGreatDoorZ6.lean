/- Parts of the proof: The reference of chapter 2: Div, Gcd. The reference of chapter 3: Add of a number with itself. From the form's reading of arguments to the framework's. No condition ahead of any statement but its own. -/
import Derived.Test.YtfeegacmmfgjfaaGreatDoorZ5
import Derived.Deep.Slices
set_option maxHeartbeats 4000000
/-!  The reference of chapter 2: Div, Gcd. -/
set_option linter.unusedVariables false
set_option maxRecDepth 10000
namespace Go.Proofs.YtfeegacmmfgjfaaGreatDoorX
open Go Go.RowKit Go.Proofs Go.Proofs.YtfeegacmmfgjfaaGreatDoorM
theorem SlR.drop_b {S : Nat → Prop} {w : World} {A : Option Addr} {n c : Nat} {xs : List UInt8} (h : SlR kB S w (.slice A n c) xs) {k : Nat} (hk : k < xs.length) : SlR kB S w (.slice (cutA A c k 1) (n - k) (c - k)) (xs.drop k) := by
  obtain ⟨rfl, h1, h2⟩ := h.len
  refine ⟨_, _, by rw [List.length_drop], by rw [List.length_drop]; omega, by omega, fun j x hj => ?_⟩
  rw [List.getElem?_drop] at hj
  obtain ⟨ad, cs, rfl, hS, hr, hc⟩ := h.get hj
  refine ⟨ad.add (k * 1), cs, ?_, ?_, hr, ?_⟩
  · unfold cutA; simp; omega
  · rw [add_block]; exact hS
  · rw [add_add, show k * 1 + j * kB.nc = (k + j) * kB.nc by rw [show kB.nc = 1 from rfl]; omega]; exact hc
theorem div_ref (x y : Nat) (w : World) (hy0 : 0 < y) (hx : (dd x).length ≤ 900) (hy : (dd y).length ≤ 900) : Ret Tryz.prog 60 #[.string (str (dd x)), .string (str (dd y))] w fun v w' => v = .tuple #[.string (str (dd (x / y))), .string (str (dd (x % y))), .int .i64 0] ∧ Ext w w' := by
  have hs : ((str (dd x)).size : Int) = (dd x).length := rfl
  have hne : dd y ≠ [48] := fun h => by rw [← dd_zero] at h; have := dd_inj h; omega
  refine fn_ret tok Tryz.func60 (by kernel_rfl) rfl rfl ?_
  (conv => whnf)
  refine (valid_dd x _ (by omega)).call ?_
  rintro _ w ⟨rfl, rfl⟩
  (conv => whnf)
  refine (valid_dd y _ (by omega)).call ?_
  rintro _ w ⟨rfl, rfl⟩
  (conv => whnf)
  refine condP_str (b := [48]) (fun h => absurd h hne) (fun _ => ?_)
  (conv => whnf)
  refine loop_box tok 0 [7, 8, 9] [0, 1] [7, 8] (fun vs w' => ∃ (i : Nat) (v : Value) (qs : List UInt8), vs = [v, .string (str (dd (dval ((dd x).take i) % y))), .int .i64 i] ∧ i ≤ (dd x).length ∧ qs.length = i ∧ (∀ c ∈ qs, isDig c = true) ∧ dval qs = dval ((dd x).take i) / y ∧ Fresh kB 5 w w' v qs) (fun vs w => match vs with | [_, _, .int _ i] => (dd x).length - i.toNat | _ => 0)
    (fun vs w' => ∃ (v : Value) (qs : List UInt8), vs = [v, .string (str (dd (x % y)))] ∧ qs.length = (dd x).length ∧ (∀ c ∈ qs, isDig c = true) ∧ dval qs = x / y ∧ Fresh kB 5 w w' v qs) ?_
  (conv => whnf)
  refine ⟨⟨0, _, [], by rw [List.take_zero, dval_nil, Nat.zero_mod, dd_zero]; rfl, Nat.zero_le _, rfl, by simp, by rw [List.take_zero, dval_nil, Nat.zero_div], .nil _ _ (.refl _ _)⟩, ?_, ?_⟩
  · rintro _ w1 ⟨i, v, qs, rfl, hi, hql, hqd, hqv, hF⟩
    (conv => whnf)
    refine condP_dec (fun hlt => ?_) (fun hlt => ?_)
    · have htg := take_getD (a := dd x) (i := i) (by omega)
      have hcd : isDig ((dd x).getD i 0) = true := dd_dig x _ (by rw [List.getD_eq_getElem?_getD, List.getElem?_eq_getElem (show i < (dd x).length by omega)]; exact List.getElem_mem _)
      have hex : ((dd x).take (i + 1)).drop i = [(dd x).getD i 0] := by
        rw [htg, List.drop_left' (by rw [List.length_take, Nat.min_eq_left (by omega)])]
      have hdv : dval ((dd x).take (i + 1)) = 10 * dval ((dd x).take i) + dig ((dd x).getD i 0) := by rw [htg, dval_snoc]
      generalize (dd x).getD i 0 = ch at *
      have hdl := dig_lt hcd
      generalize hr : dval ((dd x).take i) % y = r at *
      have hrlt : r < y := by rw [← hr]; exact Nat.mod_lt _ hy0
      have hsx : (str (dd x)).extract (i : Int).toNat ((i : Int) + 1).toNat = str [ch] := by
        rw [str_extract, Int.toNat_natCast, show ((i : Int) + 1).toNat = i + 1 by omega, hex]
      (repeat ((conv => whnf); first | refine numP_i64 (by omega) ?_ | refine numP_u64 (by omega) ?_ | refine numP_u8 (by omega) ?_ | refine Exists.intro _ (And.intro ‹_› ?_) | refine Exists.intro _ (And.intro rfl ?_) | refine And.intro (by omega) (Exists.intro _ (And.intro rfl ?_)) | refine And.intro (by omega) ?_)); (conv => whnf)
      refine condP_str (b := [48]) (fun h0 => ?_) (fun h0 => ?_)
      · have hr0 : r = 0 := dd_inj (h0.trans dd_zero.symm)
        have ht : [ch] = dd (10 * r + dig ch) := by rw [hr0, Nat.mul_zero, Nat.zero_add, dd_dig1 hcd]
        (repeat ((conv => whnf); first | refine numP_i64 (by omega) ?_ | refine numP_u64 (by omega) ?_ | refine numP_u8 (by omega) ?_ | refine Exists.intro _ (And.intro ‹_› ?_) | refine Exists.intro _ (And.intro rfl ?_) | refine And.intro (by omega) (Exists.intro _ (And.intro rfl ?_)) | refine And.intro (by omega) ?_)); (conv => whnf)
        rw [hsx, ht]
        refine loop_box tok 2 [8, 10] [0, 1, 7, 9] [8, 10] (fun vs w' => ∃ (R D : Nat), vs = [.string (str (dd R)), .int .u8 (48 + (D : Int))] ∧ R + D * y = 10 * r + dig ch ∧ Ext w1 w') (fun vs w => match vs with | [_, .int _ d] => 58 - d.toNat | _ => 0)
          (fun vs w' => ∃ (R D : Nat), vs = [.string (str (dd R)), .int .u8 (48 + (D : Int))] ∧ R + D * y = 10 * r + dig ch ∧ R < y ∧ Ext w1 w') ?_
        (conv => whnf)
        refine ⟨⟨_, 0, rfl, by omega, .refl _ _⟩, ?_, ?_⟩
        · rintro _ w2 ⟨R, D, rfl, hRD, hE⟩
          have hD9 : D * y < 10 * y := by omega
          have hD : D < 10 := Nat.lt_of_mul_lt_mul_right hD9
          have hRl : (dd R).length ≤ 1000 := by
            have h1 := dd_mono (show R ≤ 10 * y by omega)
            have h2 := dd_mul (x := 10) (y := y) (k := 2) (l := 900) (by decide +kernel) hy
            omega
          (conv => whnf)
          refine (compare_ref R y w2 (by omega) (by omega)).call ?_
          rintro _ w3 ⟨rfl, hE3⟩
          (conv => whnf)
          rcases Nat.lt_or_ge R y with hlt2 | hge
          · rw [cmpN_lt hlt2]
            refine condP_no (by decide) ?_
            (conv => whnf)
            exact ⟨⟨rfl, rfl⟩, R, D, rfl, hRD, hlt2, hE.trans hE3⟩
          · have hc0 : 0 ≤ cmpN R y := by
              rcases Nat.lt_or_eq_of_le hge with h | h
              · rw [cmpN_gt h]; decide
              · rw [h, cmpN_eq]; decide
            have hyl := dd_mono hge
            refine condP_yes hc0 ?_
            (conv => whnf)
            refine (digits_ref (dd R) w3 (dd_dig R) (by omega)).call ?_
            intro u1 w4 hU1
            (conv => whnf)
            refine (digits_ref (dd y) w4 (dd_dig y) (by omega)).call ?_
            intro u2 w5 hU2
            obtain ⟨B1, e1, rfl, _, _⟩ := hU1.shape
            obtain ⟨B2, e2, rfl, _, _⟩ := hU2.shape
            (conv => whnf)
            refine (less_ref _ _ _ _ _ _ _ _ _ _ w5 (hU1.up hU2.ext).read hU2.read (dgs_lt (dd_dig R)) (dgs_lt (dd_dig y)) (by rw [dgs_len]; omega)).call ?_
            intro u3 w6 hU3
            have hlen3 := eachS_len gMinus10 (dgs (dd R)) (dgs (dd y)) (dgs (dd R)).length
            have hall := (each_all10 (g := gMinus10) (good := fun c => c ≤ 1) (dgs_lt (dd_dig R)) (dgs_lt (dd_dig y)) (by decide) (fun a b c ha hb hc => ⟨(gMinus_ok10 ha hb hc).1, (gMinus_ok10 ha hb hc).2.1⟩) (dgs (dd R)).length).1
            have hval := minus_all (dgs_lt (dd_dig R)) (dgs_lt (dd_dig y)) (by rw [dgs_len, dgs_len]; exact hyl) (by rw [dgs_val, dgs_val, dval_dd, dval_dd]; exact hge)
            rw [dgs_val, dgs_val, dval_dd, dval_dd] at hval
            rw [dgs_len] at hlen3
            obtain ⟨B3, e3, rfl, _, _⟩ := hU3.shape
            (conv => whnf)
            refine (text_ref _ _ _ _ _ w6 hU3.read (by rw [dgs_len]; omega) hall).call ?_
            rintro _ w7 ⟨rfl, hE7⟩
            rw [hval]
            have hsm : (D + 1) * y = D * y + y := Nat.succ_mul D y
            (repeat ((conv => whnf); first | refine numP_i64 (by omega) ?_ | refine numP_u64 (by omega) ?_ | refine numP_u8 (by omega) ?_ | refine Exists.intro _ (And.intro ‹_› ?_) | refine Exists.intro _ (And.intro rfl ?_) | refine And.intro (by omega) (Exists.intro _ (And.intro rfl ?_)) | refine And.intro (by omega) ?_)); (conv => whnf)
            refine ⟨⟨rfl, rfl⟩, ⟨R - y, D + 1, by rw [show (48 : Int) + ((D + 1 : Nat) : Int) = 48 + (D : Int) + 1 by omega], by omega, ((((hE.trans hE3).trans hU1.ext).trans hU2.ext).trans hU3.ext).trans hE7⟩, by simp; omega⟩
        rintro _ w2 ⟨R, D, rfl, hRD, hRlt, hE⟩
        have hD9 : D * y < 10 * y := by omega
        have hD : D < 10 := Nat.lt_of_mul_lt_mul_right hD9
        obtain ⟨hq1, hq2⟩ := div_next hy0 hr.symm hRD hRlt hdv
        have hF := hF.up hE
        (conv => whnf)
        intro bq w3 hw3
        (conv => whnf)
        refine kB_flat.app (x := chr D) tok rfl rfl rfl rfl rfl hw3 hF (by rw [show (48 : Int) + (D : Int) = ((chr D).toNat : Int) by rw [(dig_chr hD).2.2]; omega]; rfl) (by omega) (by omega) (fun v' w4 hF4 hC4 ho4 => ?_)
        (repeat ((conv => whnf); first | refine numP_i64 (by omega) ?_ | refine numP_u64 (by omega) ?_ | refine numP_u8 (by omega) ?_ | refine Exists.intro _ (And.intro ‹_› ?_) | refine Exists.intro _ (And.intro rfl ?_) | refine And.intro (by omega) (Exists.intro _ (And.intro rfl ?_)) | refine And.intro (by omega) ?_)); (conv => whnf)
        refine ⟨⟨rfl, rfl⟩, ⟨i + 1, v', qs ++ [chr D], by rw [← hq2]; rfl, by omega, by simp; omega, ?_, ?_, hF4⟩, by simp; omega⟩
        · intro c hc
          rcases List.mem_append.1 hc with h | h
          · exact hqd c h
          · simp at h; subst h; exact (dig_chr hD).2.1
        · rw [dval_snoc, hqv, (dig_chr hD).1]; exact hq1
      · have hr0 : 0 < r := by
          rcases Nat.eq_zero_or_pos r with h | h
          · exact absurd (by rw [h]; exact dd_zero) h0
          · exact h
        have ht : dd r ++ [ch] = dd (10 * r + dig ch) := (dd_next hcd hr0).symm
        (repeat ((conv => whnf); first | refine numP_i64 (by omega) ?_ | refine numP_u64 (by omega) ?_ | refine numP_u8 (by omega) ?_ | refine Exists.intro _ (And.intro ‹_› ?_) | refine Exists.intro _ (And.intro rfl ?_) | refine And.intro (by omega) (Exists.intro _ (And.intro rfl ?_)) | refine And.intro (by omega) ?_)); (conv => whnf)
        rw [hsx, str_append, ht]
        have hrl := dd_mono (show r ≤ y by omega)
        have hz1 : (str (dd r)).size = (dd r).length := rfl
        have hz2 : (str [ch]).size = 1 := rfl
        refine ⟨by omega, ?_⟩
        (conv => whnf)
        refine loop_box tok 2 [8, 10] [0, 1, 7, 9] [8, 10] (fun vs w' => ∃ (R D : Nat), vs = [.string (str (dd R)), .int .u8 (48 + (D : Int))] ∧ R + D * y = 10 * r + dig ch ∧ Ext w1 w') (fun vs w => match vs with | [_, .int _ d] => 58 - d.toNat | _ => 0)
          (fun vs w' => ∃ (R D : Nat), vs = [.string (str (dd R)), .int .u8 (48 + (D : Int))] ∧ R + D * y = 10 * r + dig ch ∧ R < y ∧ Ext w1 w') ?_
        (conv => whnf)
        refine ⟨⟨_, 0, rfl, by omega, .refl _ _⟩, ?_, ?_⟩
        · rintro _ w2 ⟨R, D, rfl, hRD, hE⟩
          have hD9 : D * y < 10 * y := by omega
          have hD : D < 10 := Nat.lt_of_mul_lt_mul_right hD9
          have hRl : (dd R).length ≤ 1000 := by
            have h1 := dd_mono (show R ≤ 10 * y by omega)
            have h2 := dd_mul (x := 10) (y := y) (k := 2) (l := 900) (by decide +kernel) hy
            omega
          (conv => whnf)
          refine (compare_ref R y w2 (by omega) (by omega)).call ?_
          rintro _ w3 ⟨rfl, hE3⟩
          (conv => whnf)
          rcases Nat.lt_or_ge R y with hlt2 | hge
          · rw [cmpN_lt hlt2]
            refine condP_no (by decide) ?_
            (conv => whnf)
            exact ⟨⟨rfl, rfl⟩, R, D, rfl, hRD, hlt2, hE.trans hE3⟩
          · have hc0 : 0 ≤ cmpN R y := by
              rcases Nat.lt_or_eq_of_le hge with h | h
              · rw [cmpN_gt h]; decide
              · rw [h, cmpN_eq]; decide
            have hyl := dd_mono hge
            refine condP_yes hc0 ?_
            (conv => whnf)
            refine (digits_ref (dd R) w3 (dd_dig R) (by omega)).call ?_
            intro u1 w4 hU1
            (conv => whnf)
            refine (digits_ref (dd y) w4 (dd_dig y) (by omega)).call ?_
            intro u2 w5 hU2
            obtain ⟨B1, e1, rfl, _, _⟩ := hU1.shape
            obtain ⟨B2, e2, rfl, _, _⟩ := hU2.shape
            (conv => whnf)
            refine (less_ref _ _ _ _ _ _ _ _ _ _ w5 (hU1.up hU2.ext).read hU2.read (dgs_lt (dd_dig R)) (dgs_lt (dd_dig y)) (by rw [dgs_len]; omega)).call ?_
            intro u3 w6 hU3
            have hlen3 := eachS_len gMinus10 (dgs (dd R)) (dgs (dd y)) (dgs (dd R)).length
            have hall := (each_all10 (g := gMinus10) (good := fun c => c ≤ 1) (dgs_lt (dd_dig R)) (dgs_lt (dd_dig y)) (by decide) (fun a b c ha hb hc => ⟨(gMinus_ok10 ha hb hc).1, (gMinus_ok10 ha hb hc).2.1⟩) (dgs (dd R)).length).1
            have hval := minus_all (dgs_lt (dd_dig R)) (dgs_lt (dd_dig y)) (by rw [dgs_len, dgs_len]; exact hyl) (by rw [dgs_val, dgs_val, dval_dd, dval_dd]; exact hge)
            rw [dgs_val, dgs_val, dval_dd, dval_dd] at hval
            rw [dgs_len] at hlen3
            obtain ⟨B3, e3, rfl, _, _⟩ := hU3.shape
            (conv => whnf)
            refine (text_ref _ _ _ _ _ w6 hU3.read (by rw [dgs_len]; omega) hall).call ?_
            rintro _ w7 ⟨rfl, hE7⟩
            rw [hval]
            have hsm : (D + 1) * y = D * y + y := Nat.succ_mul D y
            (repeat ((conv => whnf); first | refine numP_i64 (by omega) ?_ | refine numP_u64 (by omega) ?_ | refine numP_u8 (by omega) ?_ | refine Exists.intro _ (And.intro ‹_› ?_) | refine Exists.intro _ (And.intro rfl ?_) | refine And.intro (by omega) (Exists.intro _ (And.intro rfl ?_)) | refine And.intro (by omega) ?_)); (conv => whnf)
            refine ⟨⟨rfl, rfl⟩, ⟨R - y, D + 1, by rw [show (48 : Int) + ((D + 1 : Nat) : Int) = 48 + (D : Int) + 1 by omega], by omega, ((((hE.trans hE3).trans hU1.ext).trans hU2.ext).trans hU3.ext).trans hE7⟩, by simp; omega⟩
        rintro _ w2 ⟨R, D, rfl, hRD, hRlt, hE⟩
        have hD9 : D * y < 10 * y := by omega
        have hD : D < 10 := Nat.lt_of_mul_lt_mul_right hD9
        obtain ⟨hq1, hq2⟩ := div_next hy0 hr.symm hRD hRlt hdv
        have hF := hF.up hE
        (conv => whnf)
        intro bq w3 hw3
        (conv => whnf)
        refine kB_flat.app (x := chr D) tok rfl rfl rfl rfl rfl hw3 hF (by rw [show (48 : Int) + (D : Int) = ((chr D).toNat : Int) by rw [(dig_chr hD).2.2]; omega]; rfl) (by omega) (by omega) (fun v' w4 hF4 hC4 ho4 => ?_)
        (repeat ((conv => whnf); first | refine numP_i64 (by omega) ?_ | refine numP_u64 (by omega) ?_ | refine numP_u8 (by omega) ?_ | refine Exists.intro _ (And.intro ‹_› ?_) | refine Exists.intro _ (And.intro rfl ?_) | refine And.intro (by omega) (Exists.intro _ (And.intro rfl ?_)) | refine And.intro (by omega) ?_)); (conv => whnf)
        refine ⟨⟨rfl, rfl⟩, ⟨i + 1, v', qs ++ [chr D], by rw [← hq2]; rfl, by omega, by simp; omega, ?_, ?_, hF4⟩, by simp; omega⟩
        · intro c hc
          rcases List.mem_append.1 hc with h | h
          · exact hqd c h
          · simp at h; subst h; exact (dig_chr hD).2.1
        · rw [dval_snoc, hqv, (dig_chr hD).1]; exact hq1
    · obtain rfl : i = (dd x).length := by omega
      rw [List.take_length, dval_dd] at *
      (conv => whnf)
      exact ⟨⟨rfl, rfl⟩, v, qs, rfl, hql, hqd, hqv, hF⟩
  rintro _ w1 ⟨v, qs, rfl, hql, hqd, hqv, hF⟩
  have hql0 : 0 < qs.length := by rw [hql]; exact dd_pos x
  have hE1 := hF.ext
  have hQ := hF.read
  obtain ⟨A7, c7, rfl, _, _⟩ := hQ.shape
  clear hF
  (conv => whnf)
  refine loop_box tok 4 [11] [7, 8] [11] (fun vs w' => ∃ k : Nat, vs = [.int .i64 k] ∧ k < qs.length ∧ (∀ j, j < k → (qs.getD j 0).toNat = 48) ∧ w' = w1) (fun vs w => match vs with | [.int _ k] => qs.length - k.toNat | _ => 0)
    (fun vs w' => ∃ k : Nat, vs = [.int .i64 k] ∧ k < qs.length ∧ (∀ j, j < k → (qs.getD j 0).toNat = 48) ∧ (k + 1 = qs.length ∨ (qs.getD k 0).toNat ≠ 48) ∧ w' = w1) ?_
  (conv => whnf)
  refine ⟨⟨0, rfl, hql0, fun j hj => by omega, rfl⟩, ?_, ?_⟩
  · rintro _ w1 ⟨k, rfl, hk, hz, rfl⟩
    (repeat ((conv => whnf); first | refine numP_i64 (by omega) ?_ | refine numP_u64 (by omega) ?_ | refine numP_u8 (by omega) ?_ | refine Exists.intro _ (And.intro ‹_› ?_) | refine Exists.intro _ (And.intro rfl ?_) | refine And.intro (by omega) (Exists.intro _ (And.intro rfl ?_)) | refine And.intro (by omega) ?_)); (conv => whnf)
    refine condP_dec (fun hlt => ?_) (fun hlt => ?_)
    · obtain ⟨ad, rfl, hcell⟩ := hQ.b k (by omega)
      (repeat ((conv => whnf); first | refine numP_i64 (by omega) ?_ | refine numP_u64 (by omega) ?_ | refine numP_u8 (by omega) ?_ | refine Exists.intro _ (And.intro ‹_› ?_) | refine Exists.intro _ (And.intro rfl ?_) | refine And.intro (by omega) (Exists.intro _ (And.intro rfl ?_)) | refine And.intro (by omega) ?_)); (conv => whnf)
      refine condP_dec (fun h48 => ?_) (fun h48 => ?_)
      · (repeat ((conv => whnf); first | refine numP_i64 (by omega) ?_ | refine numP_u64 (by omega) ?_ | refine numP_u8 (by omega) ?_ | refine Exists.intro _ (And.intro ‹_› ?_) | refine Exists.intro _ (And.intro rfl ?_) | refine And.intro (by omega) (Exists.intro _ (And.intro rfl ?_)) | refine And.intro (by omega) ?_)); (conv => whnf)
        refine ⟨⟨rfl, rfl⟩, ⟨k + 1, rfl, by omega, fun j hj => ?_, rfl⟩, by simp; omega⟩
        by_cases hjk : j = k
        · subst hjk; omega
        · exact hz j (by omega)
      · (conv => whnf)
        exact ⟨⟨rfl, rfl⟩, k, rfl, hk, hz, .inr (by omega), rfl⟩
    · (conv => whnf)
      exact ⟨⟨rfl, rfl⟩, k, rfl, hk, hz, .inl (by omega), rfl⟩
  rintro _ w1 ⟨k, rfl, hk, hz, hlast, rfl⟩
  have hend := dd_zeros hqd hk hz hlast
  rw [hqv] at hend
  (repeat ((conv => whnf); first | refine numP_i64 (by omega) ?_ | refine numP_u64 (by omega) ?_ | refine numP_u8 (by omega) ?_ | refine Exists.intro _ (And.intro ‹_› ?_) | refine Exists.intro _ (And.intro rfl ?_) | refine And.intro (by omega) (Exists.intro _ (And.intro rfl ?_)) | refine And.intro (by omega) ?_)); (conv => whnf)
  refine sem_bstr rfl (hQ.drop_b hk) ?_
  rw [show qs.drop (k : Int).toNat = dd (x / y) from hend]
  (conv => whnf)
  exact ⟨rfl, hE1⟩
theorem dval_str (b : Nat) : dval (str (dd b)).data.toList = b := by
  show dval ((dd b).toArray).toList = b
  rw [List.toList_toArray, dval_dd]
theorem gcd_ref (x y : Nat) (w : World) (hx : (dd x).length ≤ 900) (hy : (dd y).length ≤ 900) : Ret Tryz.prog 54 #[.string (str (dd x)), .string (str (dd y))] w fun v w' => v = .tuple #[.string (str (dd (Nat.gcd x y))), .int .i64 0] ∧ Ext w w' := by
  refine fn_ret tok Tryz.func54 (by kernel_rfl) rfl rfl ?_
  (conv => whnf)
  refine (valid_dd x _ (by omega)).call ?_
  rintro _ w ⟨rfl, rfl⟩
  (conv => whnf)
  refine (valid_dd y _ (by omega)).call ?_
  rintro _ w ⟨rfl, rfl⟩
  (conv => whnf)
  refine loop_rule tok [0, 1] [] (fun vs w' => ∃ a b : Nat, vs = [.string (str (dd a)), .string (str (dd b))] ∧ Nat.gcd a b = Nat.gcd x y ∧ (dd a).length ≤ 900 ∧ (dd b).length ≤ 900 ∧ Ext w w') (fun vs w => match vs with | [_, .string s] => dval s.data.toList | _ => 0) ?_
  (conv => whnf)
  refine ⟨⟨x, y, rfl, rfl, hx, hy, .refl _ _⟩, ?_⟩
  rintro _ w1 ⟨a, b, rfl, hg, ha, hb, hE⟩
  (conv => whnf)
  refine condP_not (condP_str (b := [48]) (fun h0 => ?_) (fun h0 => ?_))
  · obtain rfl : b = 0 := dd_inj (h0.trans dd_zero.symm)
    rw [Nat.gcd_zero_right] at hg
    (conv => whnf)
    exact ⟨by rw [hg], hE⟩
  · have hb0 : 0 < b := by
      rcases Nat.eq_zero_or_pos b with h | h
      · exact absurd (by rw [h]; exact dd_zero) h0
      · exact h
    have hlt := Nat.mod_lt a hb0
    (conv => whnf)
    refine (div_ref a b w1 hb0 ha hb).call ?_
    rintro _ w2 ⟨rfl, hE2⟩
    (conv => whnf)
    refine ⟨⟨rfl, rfl⟩, ⟨b, a % b, rfl, ?_, hb, Nat.le_trans (dd_mono (by omega)) hb, hE.trans hE2⟩, ?_⟩
    · rw [← hg, Nat.gcd_comm a b, Nat.gcd_rec b a, Nat.gcd_comm]
    · show dval (str (dd (a % b))).data.toList < dval (str (dd b)).data.toList
      rw [dval_str, dval_str]; exact hlt
end Go.Proofs.YtfeegacmmfgjfaaGreatDoorX

/-!  The reference of chapter 3: Add of a number with itself. -/
set_option linter.unusedVariables false
set_option maxRecDepth 10000
namespace Go.Proofs.YtfeegacmmfgjfaaGreatDoorX
open Go Go.RowKit Go.Proofs Go.Proofs.YtfeegacmmfgjfaaGreatDoorM
theorem index_ref (s : List UInt8) (c : UInt8) (n : Nat) (w : World) (hs : s.length ≤ 100000) (hn : n ≤ s.length) (hno : ∀ j, j < n → s.getD j 0 ≠ c) (hat : n = s.length ∨ s.getD n 0 = c) :
    Ret Tryz.prog 52 #[.string (str s), .int .u8 (c.toNat : Int)] w fun v w' => v = .int .i64 (if n = s.length then -1 else n) ∧ w' = w := by
  have hsz : ((str s).size : Int) = s.length := rfl
  refine fn_ret tok Tryz.func52 (by kernel_rfl) rfl rfl ?_
  (conv => whnf)
  refine loop_rule tok [5] [0, 1] (fun vs w' => ∃ i : Nat, vs = [.int .i64 i] ∧ i ≤ n ∧ w' = w) (fun vs w => match vs with | [.int _ i] => s.length - i.toNat | _ => 0) ?_
  (conv => whnf)
  refine ⟨⟨0, rfl, Nat.zero_le _, rfl⟩, ?_⟩
  rintro _ w ⟨i, rfl, hi, rfl⟩
  (conv => whnf)
  refine condP_dec (fun hlt => ?_) (fun hlt => ?_)
  · have hb : byteAt (str s) (i : Int) = ((s.getD i 0).toNat : Int) := byteAt_str s i
    (repeat ((conv => whnf); first | refine numP_i64 (by omega) ?_ | refine numP_u64 (by omega) ?_ | refine numP_u8 (by omega) ?_ | refine Exists.intro _ (And.intro ‹_› ?_) | refine Exists.intro _ (And.intro rfl ?_) | refine And.intro (by omega) (Exists.intro _ (And.intro rfl ?_)) | refine And.intro (by omega) ?_)); (conv => whnf)
    rw [hb]
    refine condP_dec (fun hq => ?_) (fun hq => ?_)
    · have hq2 : s.getD i 0 = c := UInt8.toNat_inj.1 (by omega)
      have hin : i = n := by
        rcases Nat.lt_or_eq_of_le hi with h | h
        · exact absurd hq2 (hno i h)
        · exact h
      subst hin
      (conv => whnf)
      exact ⟨by rw [if_neg (by omega)], rfl⟩
    · have hin : i ≠ n := fun e => by
        subst e
        rcases hat with h | h
        · omega
        · rw [h] at hq; exact hq rfl
      (repeat ((conv => whnf); first | refine numP_i64 (by omega) ?_ | refine numP_u64 (by omega) ?_ | refine numP_u8 (by omega) ?_ | refine Exists.intro _ (And.intro ‹_› ?_) | refine Exists.intro _ (And.intro rfl ?_) | refine And.intro (by omega) (Exists.intro _ (And.intro rfl ?_)) | refine And.intro (by omega) ?_)); (conv => whnf)
      exact ⟨⟨rfl, rfl⟩, ⟨i + 1, rfl, by omega, rfl⟩, by simp; omega⟩
  · have : n = s.length := by omega
    (conv => whnf)
    exact ⟨by rw [if_pos this], rfl⟩
theorem short_ref (x : Nat) (w : World) (hx : (dd x).length ≤ 400) : Ret Tryz.prog 53 #[.string (str (dd x))] w fun v w' => v = .bool true ∧ w' = w := by
  have hsz : ((str (dd x)).size : Int) = (dd x).length := rfl
  refine fn_ret tok Tryz.func53 (by kernel_rfl) rfl rfl ?_
  (conv => whnf)
  refine condP_yes (by omega) ?_
  (conv => whnf)
  refine (valid_dd x _ (by omega)).call ?_
  rintro _ w ⟨rfl, rfl⟩
  (conv => whnf)
  exact ⟨rfl, rfl⟩
theorem times_ref (x y : Nat) (w : World) (hx : (dd x).length ≤ 400) (hy : (dd y).length ≤ 400) : Ret Tryz.prog 27 #[.string (str (dd x)), .string (str (dd y))] w fun v w' => v = .string (str (dd (x * y))) ∧ Ext w w' := by
  refine fn_ret tok Tryz.func27 (by kernel_rfl) rfl rfl ?_
  (conv => whnf)
  refine (mul_ref x y w hx hy).call ?_
  rintro _ w1 ⟨rfl, hE⟩
  (conv => whnf)
  exact ⟨rfl, hE⟩
theorem sum_ref (p : Bool) (x y : Nat) (w : World) (hx : (dd x).length ≤ 900) (hy : (dd y).length ≤ 900) : Ret Tryz.prog 26 #[.bool p, .string (str (dd x)), .bool p, .string (str (dd y))] w fun v w' => v = .tuple #[.bool p, .string (str (dd (x + y)))] ∧ Ext w w' := by
  refine fn_ret tok Tryz.func26 (by kernel_rfl) rfl rfl ?_
  (conv => whnf)
  rw [show beqb p p = true by cases p <;> rfl]
  (conv => whnf)
  refine (add_ref x y w hx hy).call ?_
  rintro _ w1 ⟨rfl, hE⟩
  (conv => whnf)
  exact ⟨rfl, hE⟩
theorem make_ref (n d : Nat) (w : World) (hd : 0 < d) (hn : (dd n).length ≤ 400) (hdl : (dd d).length ≤ 400) : Ret Tryz.prog 28 #[.bool false, .string (str (dd n)), .string (str (dd d))] w fun v w' => v = .tuple #[.string (str (dd (n / Nat.gcd n d) ++ (if d / Nat.gcd n d = 1 then [] else 47 :: dd (d / Nat.gcd n d)))), .int .i64 0] ∧ Ext w w' := by
  have hg : 0 < Nat.gcd n d := Nat.gcd_pos_of_pos_right _ hd
  have hgl : (dd (Nat.gcd n d)).length ≤ 400 := Nat.le_trans (dd_mono (Nat.gcd_le_right _ hd)) hdl
  have hn2 : (dd (n / Nat.gcd n d)).length ≤ 400 := Nat.le_trans (dd_mono (Nat.div_le_self _ _)) hn
  have hd2 : (dd (d / Nat.gcd n d)).length ≤ 400 := Nat.le_trans (dd_mono (Nat.div_le_self _ _)) hdl
  have hne : dd d ≠ [48] := fun h => by rw [← dd_zero] at h; have := dd_inj h; omega
  have hs1 : ((str (dd (n / Nat.gcd n d))).size : Int) = (dd (n / Nat.gcd n d)).length := rfl
  have hs2 : ((str (dd (d / Nat.gcd n d))).size : Int) = (dd (d / Nat.gcd n d)).length := rfl
  refine fn_ret tok Tryz.func28 (by kernel_rfl) rfl rfl ?_
  (conv => whnf)
  refine (valid_dd n _ (by omega)).call ?_
  rintro _ w ⟨rfl, rfl⟩
  (conv => whnf)
  refine (valid_dd d _ (by omega)).call ?_
  rintro _ w ⟨rfl, rfl⟩
  (conv => whnf)
  refine condP_str (b := [48]) (fun h => absurd h hne) (fun _ => ?_)
  (conv => whnf)
  refine (gcd_ref n d w (by omega) (by omega)).call ?_
  rintro _ w1 ⟨rfl, hE1⟩
  generalize Nat.gcd n d = g at *
  (conv => whnf)
  refine (div_ref n g w1 hg (by omega) (by omega)).call ?_
  rintro _ w2 ⟨rfl, hE2⟩
  (conv => whnf)
  refine (div_ref d g w2 hg (by omega) (by omega)).call ?_
  rintro _ w3 ⟨rfl, hE3⟩
  have hE := (hE1.trans hE2).trans hE3
  generalize n / g = a at *
  generalize d / g = b at *
  (conv => whnf)
  refine condP_no (by omega) ?_
  (conv => whnf)
  refine condP_no (by omega) ?_
  (conv => whnf)
  refine condP_str (b := [49]) (fun h1 => ?_) (fun h1 => ?_)
  · obtain rfl : b = 1 := dd_inj (h1.trans dd_one.symm)
    rw [if_pos rfl, List.append_nil]
    (conv => whnf)
    exact ⟨rfl, hE⟩
  · have hb1 : b ≠ 1 := fun e => h1 (by rw [e]; exact dd_one)
    rw [if_neg hb1]
    (repeat ((conv => whnf); first | refine numP_i64 (by omega) ?_ | refine numP_u64 (by omega) ?_ | refine numP_u8 (by omega) ?_ | refine Exists.intro _ (And.intro ‹_› ?_) | refine Exists.intro _ (And.intro rfl ?_) | refine And.intro (by omega) (Exists.intro _ (And.intro rfl ?_)) | refine And.intro (by omega) ?_)); (conv => whnf)
    have hz1 : (str (dd a)).size = (dd a).length := rfl
    have hz2 : ({ data := #[47] } : ByteArray).size = 1 := rfl
    refine ⟨by omega, ?_⟩
    rw [show ({ data := #[47] } : ByteArray) = str [47] from rfl, str_append]
    (repeat ((conv => whnf); first | refine numP_i64 (by omega) ?_ | refine numP_u64 (by omega) ?_ | refine numP_u8 (by omega) ?_ | refine Exists.intro _ (And.intro ‹_› ?_) | refine Exists.intro _ (And.intro rfl ?_) | refine And.intro (by omega) (Exists.intro _ (And.intro rfl ?_)) | refine And.intro (by omega) ?_)); (conv => whnf)
    have hz3 : (str (dd a ++ [47])).size = (dd a).length + 1 := by rw [str_size, List.length_append]; rfl
    have hz4 : (str (dd b)).size = (dd b).length := rfl
    refine ⟨by omega, ?_⟩
    rw [str_append]
    (conv => whnf)
    exact ⟨by rw [List.append_assoc]; rfl, hE⟩
theorem parts_ref (n d : Nat) (w : World) (hd : 0 < d) (hg : Nat.gcd n d = 1) (hn : (dd n).length ≤ 10) (hdl : (dd d).length ≤ 10) : Ret Tryz.prog 25 #[.string (str (dd n ++ (if d = 1 then [] else 47 :: dd d)))] w fun v w' => v = .tuple #[.bool false, .string (str (dd n)), .string (str (dd d)), .bool true] ∧ Ext w w' := by
  have hne : dd d ≠ [48] := fun h => by rw [← dd_zero] at h; have := dd_inj h; omega
  generalize hs : dd n ++ (if d = 1 then [] else 47 :: dd d) = s
  have hn0 := dd_pos n
  have hsl : (dd n).length ≤ s.length ∧ s.length ≤ 30 := by
    rw [← hs, List.length_append]
    split
    · simp; omega
    · simp; omega
  have hsz : ((str s).size : Int) = s.length := rfl
  have hg0 : ∀ j, j < (dd n).length → s.getD j 0 = (dd n).getD j 0 := fun j hj => by
    rw [← hs, List.getD_eq_getElem?_getD, List.getElem?_append_left hj, List.getD_eq_getElem?_getD]
  have hdg : ∀ j, j < (dd n).length → 48 ≤ (s.getD j 0).toNat ∧ (s.getD j 0).toNat ≤ 57 := fun j hj => by
    rw [hg0 j hj]
    have := dig_range (dd_dig n) hj
    omega
  have hb0 : byteAt (str s) 0 = ((s.getD 0 0).toNat : Int) := byteAt_str s 0
  have h00 := hdg 0 hn0
  have hdf : dec ((((s.getD 0 0).toNat : Nat) : Int) = 45) = false := dec_false (by omega)
  have hno : ∀ j, j < (dd n).length → s.getD j 0 ≠ 47 := fun j hj e => by
    have := hdg j hj
    rw [e] at this
    exact absurd this.1 (by decide)
  have hat : (dd n).length = s.length ∨ s.getD (dd n).length 0 = 47 := by
    by_cases h1 : d = 1
    · rw [if_pos h1, List.append_nil] at hs; exact .inl (by rw [hs])
    · rw [if_neg h1] at hs
      refine .inr ?_
      rw [← hs, List.getD_eq_getElem?_getD, List.getElem?_append_right (Nat.le_refl _), Nat.sub_self]
      rfl
  refine fn_ret tok Tryz.func25 (by kernel_rfl) rfl rfl ?_
  (conv => whnf)
  refine condP_yes (by omega) ?_
  (repeat ((conv => whnf); first | refine numP_i64 (by omega) ?_ | refine numP_u64 (by omega) ?_ | refine numP_u8 (by omega) ?_ | refine Exists.intro _ (And.intro ‹_› ?_) | refine Exists.intro _ (And.intro rfl ?_) | refine And.intro (by omega) (Exists.intro _ (And.intro rfl ?_)) | refine And.intro (by omega) ?_)); (conv => whnf)
  rw [hb0]
  refine condP_no (by omega) ?_
  (conv => whnf)
  refine (index_ref s 47 (dd n).length w (by omega) hsl.1 hno hat).call ?_
  rintro _ w ⟨rfl, rfl⟩
  (conv => whnf)
  by_cases h1 : d = 1
  · rw [if_pos h1, List.append_nil] at hs
    subst hs
    subst h1
    rw [if_pos rfl]
    refine condP_no (by omega) ?_
    (conv => whnf)
    refine (short_ref n w (by omega)).call ?_
    rintro _ w ⟨rfl, rfl⟩
    (conv => whnf)
    have hsh1 := short_ref 1 w (by decide +kernel)
    rw [dd_one] at hsh1
    refine hsh1.call ?_
    rintro _ w ⟨rfl, rfl⟩
    (conv => whnf)
    refine condP_str (a := [49]) (b := [48]) (fun h => absurd h (by decide)) (fun _ => ?_)
    (conv => whnf)
    refine condP_str (b := [48]) (fun hz => ?_) (fun hz => ?_)
    · (conv => whnf)
      refine condP_no (by omega) ?_
      (conv => whnf)
      refine condP_no (by omega) ?_
      (conv => whnf)
      refine condP_str (a := [49]) (b := [49]) (fun _ => ?_) (fun h => absurd rfl h)
      (conv => whnf)
      refine condP_no (by omega) ?_
      (conv => whnf)
      have hg1 := gcd_ref n 1 w (by omega) (by decide +kernel)
      rw [hg, dd_one] at hg1
      refine hg1.call ?_
      rintro _ w1 ⟨rfl, hE⟩
      (conv => whnf)
      refine condP_not (condP_str (a := [49]) (b := [49]) (fun _ => ?_) (fun h => absurd rfl h))
      (conv => whnf)
      exact ⟨by rw [hdf, dd_one], hE⟩
    · (conv => whnf)
      refine condP_str (a := [49]) (b := [49]) (fun _ => ?_) (fun h => absurd rfl h)
      (conv => whnf)
      refine condP_no (by omega) ?_
      (conv => whnf)
      have hg1 := gcd_ref n 1 w (by omega) (by decide +kernel)
      rw [hg, dd_one] at hg1
      refine hg1.call ?_
      rintro _ w1 ⟨rfl, hE⟩
      (conv => whnf)
      refine condP_not (condP_str (a := [49]) (b := [49]) (fun _ => ?_) (fun h => absurd rfl h))
      (conv => whnf)
      exact ⟨by rw [hdf, dd_one], hE⟩
  · rw [if_neg h1] at hs
    have hln : s.length = (dd n).length + 1 + (dd d).length := by rw [← hs, List.length_append, List.length_cons]; omega
    have hd1 : dd d ≠ [49] := fun e => h1 (dd_inj (e.trans dd_one.symm))
    have hnz : dd n ≠ [48] := fun e => by
      have := dd_inj (e.trans dd_zero.symm)
      subst this
      rw [Nat.gcd_zero_left] at hg
      exact h1 hg
    have hd2 : (str s).extract (((dd n).length : Int) + 1).toNat ((str s).size : Int).toNat = str (dd d) := by
      rw [str_extract, hsz, Int.toNat_natCast, List.take_length, ← hs, show (((dd n).length : Int) + 1).toNat = (dd n).length + 1 by omega, List.drop_append, List.drop_of_length_le (by omega), show (dd n).length + 1 - (dd n).length = 1 by omega]
      rfl
    have hn2 : (str s).extract (0 : Int).toNat ((dd n).length : Int).toNat = str (dd n) := by
      rw [str_extract, Int.toNat_natCast, show (0 : Int).toNat = 0 from rfl, List.drop_zero, ← hs, List.take_left]
    rw [if_neg (by omega)]
    refine condP_yes (by omega) ?_
    (repeat ((conv => whnf); first | refine numP_i64 (by omega) ?_ | refine numP_u64 (by omega) ?_ | refine numP_u8 (by omega) ?_ | refine Exists.intro _ (And.intro ‹_› ?_) | refine Exists.intro _ (And.intro rfl ?_) | refine And.intro (by omega) (Exists.intro _ (And.intro rfl ?_)) | refine And.intro (by omega) ?_)); (conv => whnf)
    rw [hd2, hn2]
    (conv => whnf)
    refine (short_ref n w (by omega)).call ?_
    rintro _ w ⟨rfl, rfl⟩
    (conv => whnf)
    refine (short_ref d w (by omega)).call ?_
    rintro _ w ⟨rfl, rfl⟩
    (conv => whnf)
    refine condP_str (b := [48]) (fun h => absurd h hne) (fun _ => ?_)
    (conv => whnf)
    refine condP_str (b := [48]) (fun h => absurd h hnz) (fun _ => ?_)
    (conv => whnf)
    refine condP_str (b := [49]) (fun h => absurd h hd1) (fun _ => ?_)
    (conv => whnf)
    have hg1 := gcd_ref n d w (by omega) (by omega)
    rw [hg, dd_one] at hg1
    refine hg1.call ?_
    rintro _ w1 ⟨rfl, hE⟩
    (conv => whnf)
    refine condP_not (condP_str (a := [49]) (b := [49]) (fun _ => ?_) (fun h => absurd rfl h))
    (conv => whnf)
    exact ⟨by rw [hdf], hE⟩
theorem qtxt_nn {q : Rat} (h : 0 ≤ q) : qtxt q = dd q.num.natAbs ++ (if q.den = 1 then [] else 47 :: dd q.den) := by
  have := Rat.num_nonneg.2 h
  unfold qtxt
  rw [if_neg (by omega), List.nil_append]
theorem qtxt_twice {q : Rat} (h : 0 ≤ q) : qtxt (q + q) = dd ((q.num.natAbs * q.den + q.num.natAbs * q.den) / Nat.gcd (q.num.natAbs * q.den + q.num.natAbs * q.den) (q.den * q.den)) ++
    (if q.den * q.den / Nat.gcd (q.num.natAbs * q.den + q.num.natAbs * q.den) (q.den * q.den) = 1 then [] else 47 :: dd (q.den * q.den / Nat.gcd (q.num.natAbs * q.den + q.num.natAbs * q.den) (q.den * q.den))) := by
  have h0 := Rat.num_nonneg.2 h
  rw [qtxt_nn (Rat.add_nonneg h h)]
  have hz : (q.num * q.den + q.num * q.den).natAbs = q.num.natAbs * q.den + q.num.natAbs * q.den := by
    have : q.num * q.den + q.num * q.den = ((q.num.natAbs * q.den + q.num.natAbs * q.den : Nat) : Int) := by
      push_cast
      rw [Int.natAbs_of_nonneg h0]
    rw [this, Int.natAbs_natCast]
  have hn : (q + q).num.natAbs = (q.num.natAbs * q.den + q.num.natAbs * q.den) / Nat.gcd (q.num.natAbs * q.den + q.num.natAbs * q.den) (q.den * q.den) := by
    rw [Rat.add_def, Rat.normalize_eq]
    show ((q.num * q.den + q.num * q.den) / ((Nat.gcd (q.num * q.den + q.num * q.den).natAbs (q.den * q.den) : Nat) : Int)).natAbs = _
    rw [hz]
    have : q.num * q.den + q.num * q.den = ((q.num.natAbs * q.den + q.num.natAbs * q.den : Nat) : Int) := by
      push_cast
      rw [Int.natAbs_of_nonneg h0]
    rw [this]
    generalize q.num.natAbs * q.den + q.num.natAbs * q.den = N
    generalize Nat.gcd N (q.den * q.den) = g
    rw [← Int.natCast_ediv, Int.natAbs_natCast]
  have hd : (q + q).den = q.den * q.den / Nat.gcd (q.num.natAbs * q.den + q.num.natAbs * q.den) (q.den * q.den) := by
    rw [Rat.add_def, Rat.normalize_eq]
    show q.den * q.den / Nat.gcd (q.num * q.den + q.num * q.den).natAbs (q.den * q.den) = _
    rw [hz]
  rw [hn, hd]
theorem addq_ref (q : Rat) (hq : 0 ≤ q) (h3 : Dg 3 q) (w : World) : Ret Tryz.prog 9 #[.string (str (qtxt q)), .string (str (qtxt q))] w fun v w' => v = .tuple #[.string (str (qtxt (q + q))), .int .i64 0] ∧ Ext w w' := by
  have hd0 : 0 < q.den := q.den_pos
  have hl1 := h3.1
  have hl2 := h3.2
  rw [qtxt_twice hq, qtxt_nn hq]
  have hg : Nat.gcd q.num.natAbs q.den = 1 := q.reduced
  generalize q.num.natAbs = n at *
  generalize q.den = d at *
  have hm1 := dd_mul (x := n) (y := d) (k := 3) (l := 3) hl1 hl2
  have hm2 := dd_mul (x := d) (y := d) (k := 3) (l := 3) hl2 hl2
  have ha := dd_add (x := n * d) (y := n * d) (k := 6) (by omega) (by omega)
  refine fn_ret tok Tryz.func9 (by kernel_rfl) rfl rfl ?_
  (conv => whnf)
  refine (parts_ref n d w hd0 hg (by omega) (by omega)).call ?_
  rintro _ w1 ⟨rfl, hE1⟩
  (conv => whnf)
  refine (parts_ref n d w1 hd0 hg (by omega) (by omega)).call ?_
  rintro _ w2 ⟨rfl, hE2⟩
  (conv => whnf)
  refine (times_ref n d w2 (by omega) (by omega)).call ?_
  rintro _ w3 ⟨rfl, hE3⟩
  (conv => whnf)
  refine (times_ref n d w3 (by omega) (by omega)).call ?_
  rintro _ w4 ⟨rfl, hE4⟩
  (conv => whnf)
  refine (sum_ref false (n * d) (n * d) w4 (by omega) (by omega)).call ?_
  rintro _ w5 ⟨rfl, hE5⟩
  (conv => whnf)
  refine (times_ref d d w5 (by omega) (by omega)).call ?_
  rintro _ w6 ⟨rfl, hE6⟩
  (conv => whnf)
  refine (make_ref (n * d + n * d) (d * d) w6 (Nat.mul_pos hd0 hd0) (by omega) (by omega)).call ?_
  rintro _ w7 ⟨rfl, hE7⟩
  (conv => whnf)
  exact ⟨rfl, (((((hE1.trans hE2).trans hE3).trans hE4).trans hE5).trans hE6).trans hE7⟩
theorem topDoubled_all (S S' : Nat → Prop) (A A' : Option Addr) (n c n' c' : Nat) (l : List (List Tok)) (ks : Str) (words : List Str) (w : World) (hL0 : Laid w)
    (h : SlR (kSl kTok) S w (.slice A n c) l) (hlen : ∀ s ∈ l, ∀ t ∈ s, t.1.length ≤ 9223372036854775807 ∧ t.2.length ≤ 9223372036854775807)
    (hws : SlR kStr S' w (.slice A' n' c') words) (hwl : ∀ s ∈ words, s.length ≤ 9223372036854775807) (hkl : ks.length ≤ 9223372036854775807) :
    Ret Tryz.prog 3 #[.slice A n c, .string (str ks), .slice A' n' c'] w fun r w' => r = .bool true ∧ Ext w w' :=
  topDoubled S S' A A' n c n' c' l ks words w hL0 h hlen hws hwl hkl fun q hq h0 hl w1 _ => by
    subst hq
    exact addq_ref q h0 (qtxt_dg hl) w1
end Go.Proofs.YtfeegacmmfgjfaaGreatDoorX

/-!  From the form's reading of arguments to the framework's. -/
set_option linter.unusedVariables false
set_option maxRecDepth 10000
namespace Go.Proofs.YtfeegacmmfgjfaaGreatDoorX
open Go Go.Deep Go.RowKit Go.Proofs Go.Proofs.YtfeegacmmfgjfaaGreatDoorM
/-- Whoever reads as data of type t is a k. -/
def TrK {α : Type} (P : Program) (t : TypeId) (k : Kd α) (φ : α → Prop) : Prop :=
  ∀ (H : Type) (enc : TypeId × Value → H) (w : World) (fuel : Nat) (cs : List Value) (x : DataW H × List MemPlace), DataW.trod enc P w 0 (fun _ => true) true fuel t cs = some x → ∃ y, k.rep (Old w) w y cs ∧ φ y
theorem TrK.strg {P : Program} {t : TypeId} (ht : P.underlying t = some .string) : TrK P t kStr (fun y => y.length ≤ 9223372036854775807) := by
  intro H enc w fuel cs x h
  obtain ⟨s, rfl, _, hs⟩ := DataW.trod_string ht h
  refine ⟨s.data.toList, ?_, ?_⟩
  · show [Value.string s] = [.string (str s.data.toList)]
    rw [str_toList]
  · have h1 : s.data.toList.length = s.size := Array.length_toList
    have h2 : s.size ≤ 9223372036854775807 := hs
    omega
theorem TrK.sl {α : Type} {P : Program} {t e : TypeId} {k : Kd α} {φ : α → Prop} (ht : P.underlying t = some (.slice e)) (hc : P.cellsOf e = k.nc) (he : TrK P e k φ) : TrK P t (kSl k) (fun ys => ∀ y ∈ ys, φ y) := by
  intro H enc w fuel cs x h
  rcases open_slice ht h with ⟨rfl, _⟩ | ⟨a, len, cap, m, n, D, Pl, rfl, hb, hl, hm, hmm, _, hx⟩
  · exact ⟨[], ⟨_, rfl, SlR.nil _ _ _⟩, by simp⟩
  have hlm : len ≤ m := by rw [hmm]; split <;> omega
  have hall : ∀ i : Fin len, ∃ y cs', w.cells? 0 (a.add (i.1 * P.cellsOf e)) (P.cellsOf e) = some cs' ∧ k.rep (Old w) w y cs' ∧ φ y := fun i => by
    obtain ⟨cs', h1, h2⟩ := hx i.1 (by omega)
    obtain ⟨y, h3, h4⟩ := he H enc w n cs' _ h2
    exact ⟨y, cs', h1, h3, h4⟩
  refine ⟨List.ofFn fun i : Fin len => Classical.choose (hall i), ⟨_, rfl, ⟨some a, cap, by rw [List.length_ofFn], by rw [List.length_ofFn]; exact hl, by have : cap ≤ 9223372036854775807 := hm; exact this, fun j y hj => ?_⟩⟩, fun y hy => ?_⟩
  · rw [List.getElem?_ofFn] at hj
    split at hj
    · rename_i hjl
      cases hj
      obtain ⟨cs', h1, h2, _⟩ := Classical.choose_spec (hall ⟨j, hjl⟩)
      obtain ⟨_, hlen, hcell⟩ := World.cells?_some h1
      have hca : CellsAt w (a.add (j * k.nc)) cs' := ⟨fun i u hu => by
        have hil := (List.getElem?_eq_some_iff.1 hu).1
        have := hcell i (by omega)
        rw [hc] at this
        rw [← hu]
        exact this⟩
      have hb2 := cellsAt_lt hca (by have := k.len h2; have := k.pos; omega)
      rw [add_block] at hb2
      exact ⟨a, cs', rfl, hb2, h2, hca⟩
    · cases hj
  · obtain ⟨i, rfl⟩ := List.mem_ofFn.1 hy
    obtain ⟨_, _, _, h3⟩ := Classical.choose_spec (hall i)
    exact h3
theorem TrK.two {P : Program} {t : TypeId} {f0 f1 : Field} (ht : P.underlying t = some (.struct #[f0, f1])) (ct : P.cellsOf t = 2) (o0 : f0.offset = 0) (o1 : f1.offset = 1) (h0 : P.underlying f0.type = some .string) (h1 : P.underlying f1.type = some .string) (c0 : P.cellsOf f0.type = 1) (c1 : P.cellsOf f1.type = 1) :
    TrK P t kTok (fun y => y.1.length ≤ 9223372036854775807 ∧ y.2.length ≤ 9223372036854775807) := by
  intro H enc w fuel cs x h
  obtain ⟨xs, n, _, _, hl, hxl, hf⟩ := DataW.trod_struct ht h
  rw [ct] at hl
  match cs, hl with
  | [u0, u1], _ =>
    have g0 := hf 0 f0 rfl
    have g1 := hf 1 f1 rfl
    have hxl2 : xs.length = 2 := hxl
    rw [o0, c0, List.getElem?_eq_getElem (by omega)] at g0
    rw [o1, c1, List.getElem?_eq_getElem (by omega)] at g1
    obtain ⟨s0, e0, _, b0⟩ := DataW.trod_string h0 g0
    obtain ⟨s1, e1, _, b1⟩ := DataW.trod_string h1 g1
    simp at e0 e1
    subst e0 e1
    refine ⟨(s0.data.toList, s1.data.toList), (kTok_flat.rep _ _ _ _).2 ?_, ?_, ?_⟩
    · unfold eTok; rw [str_toList, str_toList]
    · have h1 : s0.data.toList.length = s0.size := Array.length_toList
      have h2 : s0.size ≤ 9223372036854775807 := b0
      show s0.data.toList.length ≤ _
      omega
    · have h1 : s1.data.toList.length = s1.size := Array.length_toList
      have h2 : s1.size ≤ 9223372036854775807 := b1
      show s1.data.toList.length ≤ _
      omega
end Go.Proofs.YtfeegacmmfgjfaaGreatDoorX
