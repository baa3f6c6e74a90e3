/- Parts of the proof: Package tagger: forward. Package tagger: Tag. Package top: comparing what is equal. No condition ahead of any statement but its own. -/
import Derived.Test.YtfeegacmmfgjfaaGreatDoorZ4
import Derived.Test.YtfeegacmmfgjfaaGreatDoorZ3
import Derived.Laws.IdiomStrings
import Derived.Laws.BytesArg
set_option maxHeartbeats 4000000
/-!  Package tagger: forward. -/
set_option linter.unusedVariables false
set_option maxRecDepth 10000
set_option maxHeartbeats 4000000
namespace Go.Proofs.YtfeegacmmfgjfaaGreatDoorX
open Go Go.RowKit Go.Proofs Go.Proofs.YtfeegacmmfgjfaaGreatDoorM
theorem mat_at {w : World} {A : Option Addr} {m c : Nat} {rr : List (List Rat)} (h : SlR (kSl kStr) (Old w) w (.slice A m c) (rr.map fun r => r.map qtxt)) {i j : Nat} (hi : i < rr.length) (hj : j < (rr.getD i []).length) :
    ∃ ad ad2 c2, A = some ad ∧ w.cell? (ad.add (i * 1)) = some (.slice (some ad2) (rr.getD i []).length c2) ∧ w.cell? (ad2.add (j * 1)) = some (.string (str (qtxt ((rr.getD i []).getD j 0)))) ∧ ad.block < w.heap.size ∧ ad2.block < w.heap.size := by
  have hr : rr[i]? = some (rr.getD i []) := by rw [List.getD_eq_getElem?_getD, List.getElem?_eq_getElem hi]; rfl
  obtain ⟨ad, _, rfl, h1, ⟨sv, rfl, hsv⟩, hca⟩ := h.get (j := i) (x := (rr.getD i []).map qtxt) (by rw [List.getElem?_map, hr]; rfl)
  generalize rr.getD i [] = r at *
  obtain ⟨A2, c2, rfl, _, _⟩ := hsv.shape
  have hq : (r.map qtxt)[j]? = some (qtxt (r.getD j 0)) := by rw [List.getElem?_map, List.getD_eq_getElem?_getD, List.getElem?_eq_getElem hj]; rfl
  obtain ⟨ad2, cs, rfl, h2, hk, hca2⟩ := hsv.get hq
  obtain rfl : cs = [.string (str (qtxt (r.getD j 0)))] := hk
  refine ⟨ad, ad2, c2, rfl, ?_, cellsAt_zero hca2 rfl, h1, h2⟩
  have := cellsAt_zero hca (u := .slice (some ad2) (r.map qtxt).length c2) rfl
  rw [List.length_map] at this
  exact this
theorem keyI : KeyT Tryz.prog 3 eI64 := .i64 Tryz.underlying3
theorem sem_lookB {mo xo : Operand} {E : Env} {K' : Value → World → Prop} {w : World} {b i : Nat} {bl : List (Nat × V)} {ty : TypeId} (hm : ev E mo = some (.map (some b))) (hx : ev E xo = some (.int .i64 (i : Nat))) (h : MB w b bl)
    (h0 : getB bl i = none → K' (.tuple #[.agg #[.string ⟨#[]⟩, .slice none 0 0], .bool false]) w)
    (h1 : ∀ sl u, getB bl i = some u → Fresh (kInt .i64) 3 (Zw w) w sl u.2 → K' (.tuple #[.agg #[.string (str (qtxt u.1)), sl], .bool true]) w) : SemOp Tryz.prog (.lookup 106 mo xo true) ty E w K' := by
  obtain ⟨es, hes, hR2⟩ := h
  have hz : ∀ w, (zeroValue 80).run Tryz.prog w = .ok (.agg #[.string ⟨#[]⟩, .slice none 0 0]) w := fun w => ti80.run_zero w
  refine .of fun ρ o hρ hop hty => ?_
  have hrun := run_lookup (P := Tryz.prog) keyI Tryz.underlying106 hz hes (i : Int) true
  rcases hR2.get i with ⟨hg1, hg2⟩ | ⟨uv, u, hg1, hg2, hRu⟩
  · rw [hg1] at hrun
    refine ⟨_, w, ?_, h0 hg2⟩
    unfold execOp
    rw [hop]
    simp only [Sem.run_bind, hρ _ _ hm, hρ _ _ hx]
    rw [show (Value.int IntKind.i64 ((i : Nat) : Int)) = eI64 (i : Int) from rfl, hrun]
    rfl
  · rw [hg1] at hrun
    obtain ⟨sl, rfl, hF⟩ := hRu
    refine ⟨_, w, ?_, h1 sl u hg2 hF⟩
    unfold execOp
    rw [hop]
    simp only [Sem.run_bind, hρ _ _ hm, hρ _ _ hx]
    rw [show (Value.int IntKind.i64 ((i : Nat) : Int)) = eI64 (i : Int) from rfl, hrun]
    rfl
/-- The model's numbers as forward wants them. -/
structure FwD (n wd : Nat) (rN rE : List (List Rat)) (cols : List Nat) : Prop where
  bn : n ≤ 1000
  ln : rN.length = n + 1
  le : rE.length = n
  rn : ∀ i, i < n + 1 → (rN.getD i []).length = n + 1
  re : ∀ i, i < n → (rE.getD i []).length = wd
  dn : ∀ i j, i < n + 1 → j < n + 1 → Dg 24 (pN rN i j)
  de : ∀ i j, i < n → j < wd → Dg 24 (pN rE i j)
  lc : cols.length ≤ 3
  c : ∀ c ∈ cols, c < wd
theorem fold_bd {n wd : Nat} {rN rE : List (List Rat)} {cols : List Nat} (hD : FwD n wd rN rE cols) : ∀ l : List Nat, (∀ c ∈ l, c < wd) → ∀ i u, getB (l.foldl (fun bl c => nextB rN rE n bl c) [(n, (1, []))]) i = some u → VD (1 + 48 * l.length) l.length u ∧ i < n + 1 := by
  intro l
  refine snoc_ind (p := fun l : List Nat => (∀ c ∈ l, c < wd) → ∀ i u, getB (l.foldl (fun bl c => nextB rN rE n bl c) [(n, (1, []))]) i = some u → VD (1 + 48 * l.length) l.length u ∧ i < n + 1) ?_ ?_ l
  · intro _ i u hu
    simp only [List.foldl_nil, getB] at hu
    split at hu
    · cases hu; exact ⟨⟨dg_one (by simp), Nat.le_refl _⟩, by omega⟩
    · cases hu
  · intro l c ih hc i u hu
    rw [List.foldl_append] at hu
    simp only [List.foldl_cons, List.foldl_nil] at hu
    obtain ⟨hi, rfl⟩ := getB_next hu
    refine ⟨?_, by omega⟩
    have h5 := VD.cell (n := 1 + 48 * l.length + 48) (l := l.length + 1) (f := fun i' u => stepV u i (pN rN i' i * pN rE i c)) (bl := l.foldl (fun bl c => nextB rN rE n bl c) [(n, (1, []))]) (by omega) (fun i' u hu => by
      obtain ⟨h1, h2⟩ := ih (fun c hc' => hc c (by simp [hc'])) i' u hu
      have := hD.dn i' i h2 (by omega)
      have h4 := hD.de i c hi (hc c (by simp))
      exact h1.step (this.mul h4) (by omega)) (n + 1)
    rw [List.length_append, List.length_singleton]
    exact h5.mono (by omega) (by omega)
theorem forward (br b7 n wd : Nat) (A1 : Option Addr) (c1 : Nat) (vW vN vE vC : Value) (rN rE : List (List Rat)) (cols : List Nat) (S : Nat → Prop) (w : World) (hL : Laid w) (hR : RunAt w br (.slice A1 n c1) vW vN vE vC) (hN : SlR (kSl kStr) (Old w) w vN (rN.map fun r => r.map qtxt)) (hE : SlR (kSl kStr) (Old w) w vE (rE.map fun r => r.map qtxt))
    (hC : SlR (kInt .i64) S w vC (cols.map fun c : Nat => (c : Int))) (h7 : w.heap[b7]? = some (.cells #[.pointer (some ⟨br, 0, none⟩)] 75 (0, 0))) (hD : FwD n wd rN rE cols) :
    Ret Tryz.prog 33 #[.pointer (some ⟨br, 0, none⟩), .agg #[.string (str (qtxt 1)), .slice none 0 0], .agg #[.string (str (qtxt 0)), .slice none 0 0], .func (.func 30) #[] #[.pointer (some ⟨b7, 0, none⟩)], .func (.func 34) #[] #[]] w fun r w' => RW w' r (fwd rN rE n cols) ∧ Ext w w' := by
  obtain ⟨A3, c3, rfl, _, _⟩ := hN.shape
  obtain ⟨A4, c4, rfl, _, _⟩ := hE.shape
  have hC := hC.old
  obtain ⟨A5, c5, rfl, _, _⟩ := hC.shape
  have hbrn := (Array.getElem?_eq_some_iff.1 hR).1
  have hb7n := (Array.getElem?_eq_some_iff.1 h7).1
  have hn := hD.bn
  refine fn_ret tok Tryz.func33 (by kernel_rfl) rfl rfl ?_
  (conv => whnf)
  intro b6 w1 hw1
  (conv => whnf)
  intro b9 w2 hw2
  (conv => whnf)
  intro b10 w3 hw3
  have hE3 : Ext w w3 := ((hw1.chg No).trans (hw2.chg No)).trans (hw3.chg No)
  have hb6 : w3.heap[b6]? = some (.cells #[.string (str (qtxt 1)), .slice none 0 0] 80 (0, 0)) := (hw3.chg No).blk ((hw2.chg No).blk hw1.blk (fun h => h)) (fun h => h)
  have hb9 : w3.heap[b9]? = some (.cells #[.string (str (qtxt 0)), .slice none 0 0] 80 (0, 0)) := (hw3.chg No).blk hw2.blk (fun h => h)
  have hb10 : w3.heap[b10]? = some (.cells #[.string ⟨#[]⟩, .slice none 0 0] 80 (0, 0)) := hw3.blk
  have hn6 := hw1.hb
  have hn9 := hw2.hb
  have hn10 := hw3.hb
  have hs1 := hw1.size
  have hs2 := hw2.size
  have hs3 := hw3.size
  clear hw1 hw2 hw3
  (conv => whnf)
  refine draw_meet [0, 3, 4, 7, 10, 11] (fun vs w' => ∃ bm : Nat, vs = [.pointer (some ⟨br, 0, none⟩), .func (.func 30) #[] #[.pointer (some ⟨b7, 0, none⟩)], .func (.func 34) #[] #[], .pointer (some ⟨b9, 0, none⟩), .pointer (some ⟨b10, 0, none⟩), .map (some bm)] ∧ MB w' bm [(n, (1, []))] ∧ Ext w3 w') ?_ ?_
  · have hS : w3.drew.heap[b6]? = _ := hb6
    have hE0 : Ext w3 w3.drew := Chg.drew No _
    refine draw_held tok mixed (fun w' => w'.heap[b6]? = some (.cells #[.string (str (qtxt 1)), .slice none 0 0] 80 (0, 0))) (ones [1, 3] (.alt 0 (.alt 2 (.alt 4 (ones [5, 6] .done) .nil) .nil) (.alt 2 (.alt 0 (.alt 4 (ones [5, 6] .done) .nil) .nil) .nil))) (by decide +kernel) (by decide +kernel) hS ?_
    (conv => whnf)
    refine ⟨_, rfl, fun w' h => cellsAt_blk h, ?_⟩
    (conv => whnf)
    refine ⟨?_, ?_, trivial⟩
    · intro bm w4 hw4
      have hE4 := hE0.trans (hw4.chg No)
      refine ⟨hE4.blk hb6 (fun h => h), ?_⟩
      (conv => whnf)
      refine ⟨?_, trivial⟩
      refine (ends br n c1 A1 _ _ _ _ w4 ((hE3.trans hE4).blk hR (fun h => h))).call ?_
      rintro _ w4 ⟨rfl, rfl⟩
      (conv => whnf)
      refine ⟨hE4.blk hb6 (fun h => h), ?_⟩
      (conv => whnf)
      refine ⟨?_, trivial⟩
      refine sem_insert tok rfl keyI (k := (n : Int)) rfl rfl rfl (l := []) hw4.blk fun w5 hw5 => ?_
      have hC5 : Chg (fun b => b = bm) w4 w5 := hw5.chg _ rfl
      have hE5 : Ext w3 w5 := hE4.then hC5 fun i hi e => by have := hw4.hb; have := hE0.size; omega
      (conv => whnf)
      refine ⟨hE5.blk hb6 (fun h => h), ?_⟩
      (conv => whnf)
      exact ⟨rfl, bm, rfl, ⟨_, hw5.blk hw4.blk, rfl, RW.nil _ 1, trivial⟩, hE5⟩
    · refine (ends br n c1 A1 _ _ _ _ _ ((hE3.trans hE0).blk hR (fun h => h))).call ?_
      rintro _ w4 ⟨rfl, rfl⟩
      (conv => whnf)
      refine ⟨hS, ?_⟩
      (conv => whnf)
      refine ⟨?_, trivial⟩
      intro bm w4 hw4
      have hE4 := hE0.trans (hw4.chg No)
      refine ⟨hE4.blk hb6 (fun h => h), ?_⟩
      (conv => whnf)
      refine ⟨?_, trivial⟩
      refine sem_insert tok rfl keyI (k := (n : Int)) rfl rfl rfl (l := []) hw4.blk fun w5 hw5 => ?_
      have hC5 : Chg (fun b => b = bm) w4 w5 := hw5.chg _ rfl
      have hE5 : Ext w3 w5 := hE4.then hC5 fun i hi e => by have := hw4.hb; have := hE0.size; omega
      (conv => whnf)
      refine ⟨hE5.blk hb6 (fun h => h), ?_⟩
      (conv => whnf)
      exact ⟨rfl, bm, rfl, ⟨_, hw5.blk hw4.blk, rfl, RW.nil _ 1, trivial⟩, hE5⟩
  rintro _ w4 ⟨bm, rfl, hM, hE34⟩
  have hE4 := hE3.trans hE34
  clear hb6
  (conv => whnf)
  refine ⟨_, by rw [addr_add, cell_of_blk (hE4.blk hR (fun h => h))]; rfl, ?_⟩
  (conv => whnf)
  refine loop_box tok 0 [11, 34] [0, 3, 4, 7, 10, 32, 33] [11] (fun vs w' => ∃ (i bm : Nat), vs = [.map (some bm), .int .i64 i] ∧ i ≤ cols.length ∧ MB w' bm ((cols.take i).foldl (fun bl c => nextB rN rE n bl c) [(n, (1, []))]) ∧ Ext w3 w') (fun vs w => match vs with | [_, .int _ i] => cols.length - i.toNat | _ => 0)
    (fun vs w' => ∃ bm : Nat, vs = [.map (some bm)] ∧ MB w' bm (cols.foldl (fun bl c => nextB rN rE n bl c) [(n, (1, []))]) ∧ Ext w3 w') ?_
  (conv => whnf)
  refine ⟨⟨0, bm, rfl, Nat.zero_le _, hM, hE34⟩, ?_, ?_⟩
  rotate_left
  · clear hM hE34 hE4
    rintro _ w4 ⟨bm, rfl, hM, hE34⟩
    have hE4 := hE3.trans hE34
    have hB : ∀ i u, getB (cols.foldl (fun bl c => nextB rN rE n bl c) [(n, (1, []))]) i = some u → VD 145 3 u ∧ i < n + 1 := fun i u hu => by
      have := fold_bd hD cols hD.c i u hu
      have hl := hD.lc
      exact ⟨this.1.mono (by omega) (by omega), this.2⟩
    have hfw : fwd rN rE n cols = cellB (fun i u => stepV u (-1) (pN rN i n)) (cols.foldl (fun bl c => nextB rN rE n bl c) [(n, (1, []))]) (n + 1) := rfl
    rw [hfw]
    clear hfw
    generalize cols.foldl (fun bl c => nextB rN rE n bl c) [(n, (1, []))] = bl at *
    (conv => whnf)
    refine ⟨_, rfl, cellsAt_blk (hE34.blk hb9 (fun h => h)), ?_⟩
    (conv => whnf)
    intro b16 w6 hw6
    obtain ⟨w7, hr7, hb7', hC7⟩ := store_blk (P := Tryz.prog) (vs := [.string (str (qtxt 0)), .slice none 0 0]) hw6.blk rfl (by intro v hv; simp at hv; rcases hv with rfl | rfl <;> rfl)
    (conv => whnf)
    refine ⟨rfl, w7, hr7, ?_⟩
    have hn16 := hw6.hb
    have hE47 : Ext w4 w7 := (hw6.chg No).then hC7 fun i hi e => by omega
    have hM := hM.ext hE47
    have hE7 := hE4.trans hE47
    have hs4 := hE34.size
    have hs7 := hE47.size
    clear hw6 hr7 hC7
    (conv => whnf)
    refine (ends br n c1 A1 _ _ _ _ w7 (hE7.blk hR (fun h => h))).call ?_
    rintro _ w7 ⟨rfl, rfl⟩
    (repeat ((conv => whnf); first | refine numP_i64 (by omega) ?_ | refine numP_u64 (by omega) ?_ | refine numP_u8 (by omega) ?_ | refine Exists.intro _ (And.intro ‹_› ?_) | refine Exists.intro _ (And.intro rfl ?_) | refine And.intro (by omega) (Exists.intro _ (And.intro rfl ?_)) | refine And.intro (by omega) ?_)); (conv => whnf)
    refine loop_box tok 6 [104] [0, 3, 4, 10, 11, 20, 103] [] (fun vs w' => ∃ (i : Nat) (sl : Value), vs = [.int .i64 i] ∧ i ≤ n + 1 ∧ w'.heap[b16]? = some (.cells #[.string (str (qtxt (cellB (fun i u => stepV u (-1) (pN rN i n)) bl i).1)), sl] 80 (0, 0)) ∧ RW w' (.agg #[.string (str (qtxt (cellB (fun i u => stepV u (-1) (pN rN i n)) bl i).1)), sl]) (cellB (fun i u => stepV u (-1) (pN rN i n)) bl i) ∧ Chg (fun b => b = b16) w7 w') (fun vs w => match vs with | [.int _ i] => n + 1 - i.toNat | _ => 0)
      (fun vs w' => ∃ sl : Value, vs = [] ∧ w'.heap[b16]? = some (.cells #[.string (str (qtxt (cellB (fun i u => stepV u (-1) (pN rN i n)) bl (n + 1)).1)), sl] 80 (0, 0)) ∧ RW w' (.agg #[.string (str (qtxt (cellB (fun i u => stepV u (-1) (pN rN i n)) bl (n + 1)).1)), sl]) (cellB (fun i u => stepV u (-1) (pN rN i n)) bl (n + 1)) ∧ Chg (fun b => b = b16) w7 w') ?_
    (conv => whnf)
    have hne16 : ∀ {b : Nat} {bl : List (Nat × V)}, MB w7 b bl → ¬ b = b16 := fun h e => by obtain ⟨es, h1, _⟩ := h; rw [e, hb7'] at h1; cases h1
    have hn3 := not3 hb7' (fun cur h => by cases h)
    have hb16n := (Array.getElem?_eq_some_iff.1 hb7').1
    refine ⟨⟨0, _, rfl, Nat.zero_le _, hb7', RW.nil _ 0, .refl _ _⟩, ?_, ?_⟩
    rotate_left
    · rintro _ w8 ⟨slv, rfl, hbx, hRv, hC8⟩
      obtain ⟨sl2, he, hF⟩ := hRv
      obtain ⟨rfl⟩ : slv = sl2 := by cases he; rfl
      obtain ⟨Ax, cx, rfl, _, _⟩ := hF.shape
      have hs8 := hC8.size
      have hb10' := hC8.blk ((hE34.trans hE47).blk hb10 (fun h => h)) (by omega)
      obtain ⟨wz, hrz, hbz, hCz⟩ := store_blk (P := Tryz.prog) (vs := [.string (str (qtxt (cellB (fun i u => stepV u (-1) (pN rN i n)) bl (n + 1)).1)), .slice Ax (cellB (fun i u => stepV u (-1) (pN rN i n)) bl (n + 1)).2.length cx]) hb10' rfl (by intro v hv; simp at hv; rcases hv with rfl | rfl <;> rfl)
      (conv => whnf)
      refine ⟨_, rfl, cellsAt_blk hbx, ?_⟩
      (conv => whnf)
      refine ⟨rfl, wz, hrz, ?_⟩
      (conv => whnf)
      refine ⟨_, rfl, cellsAt_blk hbz, ?_⟩
      have hRz : RW w8 (.agg #[.string (str (qtxt (cellB (fun i u => stepV u (-1) (pN rN i n)) bl (n + 1)).1)), .slice Ax (cellB (fun i u => stepV u (-1) (pN rN i n)) bl (n + 1)).2.length cx]) _ := ⟨_, rfl, hF⟩
      exact ⟨hRz.stay hCz (not3 hb10' (fun cur h => by cases h)), (hE7.then hC8 fun k hk e => by omega).then hCz fun k hk e => by omega⟩
    rintro _ w8 ⟨i, slv, rfl, hi, hbx, hRv, hC8⟩
    have hM8 := hM.stay hC8 (hne16 hM) hn3
    have hE8 : Ext w w8 := hE7.then hC8 fun k hk e => by omega
    have hs8 := hC8.size
    (conv => whnf)
    refine condP_dec (fun h3 => ?_) (fun h3 => ?_)
    rotate_left
    · obtain rfl : i = n + 1 := by omega
      (conv => whnf)
      exact ⟨⟨rfl, rfl⟩, slv, rfl, hbx, hRv, hC8⟩
    (conv => whnf)
    refine sem_lookB rfl rfl hM8 (fun hg2 => ?_) (fun slu u hg2 hFu0 => ?_)
    · (conv => whnf)
      intro b18 w9 hw9
      obtain ⟨w10, hr10, hb10', hC10⟩ := store_blk (P := Tryz.prog) (vs := [.string ⟨#[]⟩, .slice none 0 0]) hw9.blk rfl (by intro v hv; simp at hv; rcases hv with rfl | rfl <;> rfl)
      (conv => whnf)
      refine ⟨rfl, w10, hr10, ?_⟩
      have hE810 : Ext w8 w10 := (hw9.chg No).then hC10 fun k hk e => by have := hw9.hb; omega
      (repeat ((conv => whnf); first | refine numP_i64 (by omega) ?_ | refine numP_u64 (by omega) ?_ | refine numP_u8 (by omega) ?_ | refine Exists.intro _ (And.intro ‹_› ?_) | refine Exists.intro _ (And.intro rfl ?_) | refine And.intro (by omega) (Exists.intro _ (And.intro rfl ?_)) | refine And.intro (by omega) ?_)); (conv => whnf)
      refine ⟨⟨rfl, rfl⟩, ⟨i + 1, slv, rfl, by omega, ?_, ?_, hC8.ext hE810⟩, by simp; omega⟩
      · rw [cellB_succ, hg2]; exact hE810.blk hbx (fun h => h)
      · rw [cellB_succ, hg2]; exact hRv.ext hE810
    · obtain ⟨hVu, hin⟩ := hB i u hg2
      (conv => whnf)
      intro b18 w9 hw9
      have hslu : slu.oneCell' = true := by obtain ⟨Ax, cx, rfl, _, _⟩ := hFu0.shape; rfl
      obtain ⟨w10, hr10, hb10', hC10⟩ := store_blk (P := Tryz.prog) (vs := [.string (str (qtxt u.1)), slu]) hw9.blk rfl (by intro v hv; simp at hv; rcases hv with rfl | rfl; rfl; exact hslu)
      (conv => whnf)
      refine ⟨rfl, w10, hr10, ?_⟩
      have hn18 := hw9.hb
      have hE810 : Ext w8 w10 := (hw9.chg No).then hC10 fun k hk e => by omega
      have hVx : VD 169 4 (cellB (fun i u => stepV u (-1) (pN rN i n)) bl i) := VD.cell (by omega) (fun i' u hu => by
        obtain ⟨h5, h6⟩ := hB i' u hu
        exact (h5.step (hD.dn i' n h6 (by omega)) (by omega)).mono (by omega) (by omega)) i
      have hdN := hD.dn i n hin (by omega)
      have hVs : VD 169 4 (stepV u (-1) (pN rN i n)) := (hVu.step hdN (by omega)).mono (by omega) (by omega)
      have hcs : cellB (fun i u => stepV u (-1) (pN rN i n)) bl (i + 1) = betterV (cellB (fun i u => stepV u (-1) (pN rN i n)) bl i) (stepV u (-1) (pN rN i n)) := by rw [cellB_succ, hg2]
      generalize hxd : cellB (fun i u => stepV u (-1) (pN rN i n)) bl i = x at *
      have hRu : RW w8 (.agg #[.string (str (qtxt u.1)), slu]) u := ⟨_, rfl, hFu0⟩
      obtain ⟨aN, aN2, cN2, rfl, hcN1, hcN2, hlN1, hlN2⟩ := mat_at hN (i := i) (j := n) (by have := hD.ln; omega) (by rw [hD.rn i (by omega)]; omega)
      have hES : Ext w w10.drew := (hE8.trans hE810).trans (Chg.drew No _)
      have hRS := hES.blk hR (fun h => h)
      have hlRN : (rN.getD i []).length = n + 1 := hD.rn i (by omega)
      have hln := hD.ln
      have hlnm : (rN.map fun r => r.map qtxt).length = n + 1 := by rw [List.length_map]; exact hln
      have hs18 := hE810.size
      (conv => whnf)
      refine draw_box [0, 3, 4, 10, 11, 20, 103, 104] (fun vs w' => vs = [.pointer (some ⟨br, 0, none⟩), .func (.func 30) #[] #[.pointer (some ⟨b7, 0, none⟩)], .func (.func 34) #[] #[], .pointer (some ⟨b10, 0, none⟩), .map (some bm), .pointer (some ⟨b16, 0, none⟩), .int .i64 ((n : Int) + 1), .int .i64 (i : Int)] ∧
        ∃ sl, w'.heap[b16]? = some (.cells #[.string (str (qtxt (betterV x (stepV u (-1) (pN rN i n))).1)), sl] 80 (0, 0)) ∧ RW w' (.agg #[.string (str (qtxt (betterV x (stepV u (-1) (pN rN i n))).1)), sl]) (betterV x (stepV u (-1) (pN rN i n))) ∧ Chg (fun b => b = b16) w10.drew w') ?_ ?_
      · have hEd : Ext w8 w10.drew := hE810.trans (Chg.drew No _)
        have hbx := hEd.blk hbx (fun h => h)
        have hRv := hRv.ext hEd
        have hRu := hRu.ext hEd
        have h7 := hES.blk h7 (fun h => h)
        have hLc := hL.ext hES
        have hne18 : ¬ b18 = b16 := by omega
        have hS : w10.drew.heap[b18]? = some (.cells #[.string (str (qtxt u.1)), slu] 80 (0, 0)) ∧ Chg (fun b => b = b16) w10.drew w10.drew := ⟨hb10', .refl _ _⟩
        refine draw_held tok mixed (fun w' => w'.heap[b18]? = some (.cells #[.string (str (qtxt u.1)), slu] 80 (0, 0)) ∧ Chg (fun b => b = b16) w10.drew w')
          (ones [0, 2, 3, 4, 5, 6, 7, 8, 9, 10, 11, 12] (.alt 1 (.alt 13 (ones [14, 15] (.alt 16 (.alt 17 (.alt 18 .done .nil) .nil) .nil)) .nil) (.alt 13 (ones [14, 15] (.alt 1 (.alt 16 (.alt 17 (.alt 18 .done .nil) .nil) .nil) (.alt 16 (.alt 1 (.alt 17 (.alt 18 .done .nil) .nil) .nil) .nil))) .nil))) (by decide +kernel) (by decide +kernel) hS ?_
        (conv => whnf)
        refine ⟨_, rfl, fun w' h => cellsAt_blk h.1, ?_⟩
        (conv => whnf)
        refine ⟨_, fun w' h => (by rw [addr_add, addr_add, cell_of_blk (h.2.blk hRS (by omega))]; rfl), ?_⟩
        (repeat ((conv => whnf); first | refine numP_i64 (by omega) ?_ | refine numP_u64 (by omega) ?_ | refine numP_u8 (by omega) ?_ | refine Exists.intro _ (And.intro ‹_› ?_) | refine Exists.intro _ (And.intro rfl ?_) | refine And.intro (by omega) (Exists.intro _ (And.intro rfl ?_)) | refine And.intro (by omega) ?_)); (conv => whnf)
        refine ⟨_, fun w' h => (by rw [Int.toNat_natCast]; exact h.2.cell (hES.cell hcN1 (fun h => h)) (by rw [add_block]; omega)), ?_⟩
        (conv => whnf)
        refine ⟨?_, ?_, trivial⟩
        · refine ⟨_, rfl, cellsAt_blk hbx, ?_⟩
          (conv => whnf)
          refine ⟨hS, ?_⟩
          (conv => whnf)
          refine ⟨?_, trivial⟩
          refine (ends br n c1 A1 _ _ _ _ _ (hS.2.blk hRS (by omega))).call ?_
          rintro _ wa ⟨rfl, rfl⟩
          (conv => whnf)
          refine ⟨hS, ?_⟩
          (repeat ((conv => whnf); first | refine numP_i64 (by omega) ?_ | refine numP_u64 (by omega) ?_ | refine numP_u8 (by omega) ?_ | refine Exists.intro _ (And.intro ‹_› ?_) | refine Exists.intro _ (And.intro rfl ?_) | refine And.intro (by omega) (Exists.intro _ (And.intro rfl ?_)) | refine And.intro (by omega) ?_)); (conv => whnf)
          refine ⟨_, fun w' h => (by rw [Int.toNat_natCast]; exact h.2.cell (hES.cell hcN2 (fun h => h)) (by rw [add_block]; omega)), ?_⟩
          (conv => whnf)
          refine ⟨?_, trivial⟩
          obtain ⟨slu', hslu, hFu⟩ := hRu
          obtain ⟨rfl⟩ : slu = slu' := by cases hslu; rfl
          have hRu : RW _ (.agg #[.string (str (qtxt u.1)), slu]) u := ⟨_, rfl, hFu⟩
          refine (tag1 b7 br u slu (-1) (pN rN i n) _ _ hLc h7 hFu.held (by have := hVu.l; omega) (hVu.d.mono (by omega)) (hdN.mono (by omega))).call ?_
          rintro _ wb ⟨sls, rfl, hFs⟩
          have hx := hFs.ext
          have hbx := hx.blk hbx (fun h => h)
          have hRv := hRv.ext hx
          have hRu := hRu.ext hx
          have hS : _ ∧ _ := ⟨hx.blk hS.1 (fun h => h), hS.2.ext hx⟩
          have h7 := hx.blk h7 (fun h => h)
          have hLc := hLc.ext hx
          have hRs := RW.of hFs
          (conv => whnf)
          refine ⟨hS, ?_⟩
          (conv => whnf)
          refine ⟨?_, trivial⟩
          obtain ⟨slv', hslv, hFv⟩ := hRv
          obtain ⟨rfl⟩ : slv = slv' := by cases hslv; rfl
          have hRv : RW _ (.agg #[.string (str (qtxt x.1)), slv]) x := ⟨_, rfl, hFv⟩
          refine (better x (stepV u (-1) (pN rN i n)) slv sls _ _ _ hLc hFv.read (by obtain ⟨s2, he, hF⟩ := hRs; cases he; exact hF.read) (hVx.d.mono (by omega)) (hVs.d.mono (by omega))).call ?_
          rintro _ wc ⟨rfl, hx⟩
          have hbx := hx.blk hbx (fun h => h)
          have hRv := hRv.ext hx
          have hRu := hRu.ext hx
          have hS : _ ∧ _ := ⟨hx.blk hS.1 (fun h => h), hS.2.ext hx⟩
          have h7 := hx.blk h7 (fun h => h)
          have hLc := hLc.ext hx
          have hRs := hRs.ext hx
          by_cases hbet : isBetter x (stepV u (-1) (pN rN i n))
          · rw [if_pos hbet]
            have hbv : betterV x (stepV u (-1) (pN rN i n)) = stepV u (-1) (pN rN i n) := if_pos hbet
            obtain ⟨sl2, he2, hF2⟩ := hRs
            obtain ⟨rfl⟩ : sls = sl2 := by cases he2; rfl
            have hRs : RW _ (.agg #[.string (str (qtxt (stepV u (-1) (pN rN i n)).1)), sls]) (stepV u (-1) (pN rN i n)) := ⟨_, rfl, hF2⟩
            obtain ⟨B5, d5, rfl, _, _⟩ := hF2.shape
            (conv => whnf)
            refine ⟨hS, ?_⟩
            (conv => whnf)
            refine ⟨?_, trivial⟩
            obtain ⟨wz, hrz, hbz, hCz⟩ := store_blk (P := Tryz.prog) (vs := [.string (str (qtxt (stepV u (-1) (pN rN i n)).1)), .slice B5 (stepV u (-1) (pN rN i n)).2.length d5]) hbx rfl (by intro v hv; simp at hv; rcases hv with rfl | rfl <;> rfl)
            refine ⟨rfl, wz, hrz, ?_⟩
            refine ⟨⟨hCz.blk hS.1 (fun e => hne18 e), hS.2.trans hCz⟩, ?_⟩
            (conv => whnf)
            refine ⟨rfl, rfl, ?_⟩
            rw [hbv]
            exact ⟨_, hbz, hRs.stay hCz (not3 hbx (fun cur h => by cases h)), hS.2.trans hCz⟩
          · rw [if_neg hbet]
            have hbv : betterV x (stepV u (-1) (pN rN i n)) = x := if_neg hbet
            obtain ⟨sl2, he2, hF2⟩ := hRv
            obtain ⟨rfl⟩ : slv = sl2 := by cases he2; rfl
            have hRv : RW _ (.agg #[.string (str (qtxt x.1)), slv]) x := ⟨_, rfl, hF2⟩
            obtain ⟨B5, d5, rfl, _, _⟩ := hF2.shape
            (conv => whnf)
            refine ⟨hS, ?_⟩
            (conv => whnf)
            refine ⟨?_, trivial⟩
            obtain ⟨wz, hrz, hbz, hCz⟩ := store_blk (P := Tryz.prog) (vs := [.string (str (qtxt x.1)), .slice B5 x.2.length d5]) hbx rfl (by intro v hv; simp at hv; rcases hv with rfl | rfl <;> rfl)
            refine ⟨rfl, wz, hrz, ?_⟩
            refine ⟨⟨hCz.blk hS.1 (fun e => hne18 e), hS.2.trans hCz⟩, ?_⟩
            (conv => whnf)
            refine ⟨rfl, rfl, ?_⟩
            rw [hbv]
            exact ⟨_, hbz, hRv.stay hCz (not3 hbx (fun cur h => by cases h)), hS.2.trans hCz⟩
        · refine (ends br n c1 A1 _ _ _ _ _ (hS.2.blk hRS (by omega))).call ?_
          rintro _ wa ⟨rfl, rfl⟩
          (conv => whnf)
          refine ⟨hS, ?_⟩
          (repeat ((conv => whnf); first | refine numP_i64 (by omega) ?_ | refine numP_u64 (by omega) ?_ | refine numP_u8 (by omega) ?_ | refine Exists.intro _ (And.intro ‹_› ?_) | refine Exists.intro _ (And.intro rfl ?_) | refine And.intro (by omega) (Exists.intro _ (And.intro rfl ?_)) | refine And.intro (by omega) ?_)); (conv => whnf)
          refine ⟨_, fun w' h => (by rw [Int.toNat_natCast]; exact h.2.cell (hES.cell hcN2 (fun h => h)) (by rw [add_block]; omega)), ?_⟩
          (conv => whnf)
          refine ⟨?_, ?_, trivial⟩
          · refine ⟨_, rfl, cellsAt_blk hbx, ?_⟩
            (conv => whnf)
            refine ⟨hS, ?_⟩
            (conv => whnf)
            refine ⟨?_, trivial⟩
            obtain ⟨slu', hslu, hFu⟩ := hRu
            obtain ⟨rfl⟩ : slu = slu' := by cases hslu; rfl
            have hRu : RW _ (.agg #[.string (str (qtxt u.1)), slu]) u := ⟨_, rfl, hFu⟩
            refine (tag1 b7 br u slu (-1) (pN rN i n) _ _ hLc h7 hFu.held (by have := hVu.l; omega) (hVu.d.mono (by omega)) (hdN.mono (by omega))).call ?_
            rintro _ wb ⟨sls, rfl, hFs⟩
            have hx := hFs.ext
            have hbx := hx.blk hbx (fun h => h)
            have hRv := hRv.ext hx
            have hRu := hRu.ext hx
            have hS : _ ∧ _ := ⟨hx.blk hS.1 (fun h => h), hS.2.ext hx⟩
            have h7 := hx.blk h7 (fun h => h)
            have hLc := hLc.ext hx
            have hRs := RW.of hFs
            (conv => whnf)
            refine ⟨hS, ?_⟩
            (conv => whnf)
            refine ⟨?_, trivial⟩
            obtain ⟨slv', hslv, hFv⟩ := hRv
            obtain ⟨rfl⟩ : slv = slv' := by cases hslv; rfl
            have hRv : RW _ (.agg #[.string (str (qtxt x.1)), slv]) x := ⟨_, rfl, hFv⟩
            refine (better x (stepV u (-1) (pN rN i n)) slv sls _ _ _ hLc hFv.read (by obtain ⟨s2, he, hF⟩ := hRs; cases he; exact hF.read) (hVx.d.mono (by omega)) (hVs.d.mono (by omega))).call ?_
            rintro _ wc ⟨rfl, hx⟩
            have hbx := hx.blk hbx (fun h => h)
            have hRv := hRv.ext hx
            have hRu := hRu.ext hx
            have hS : _ ∧ _ := ⟨hx.blk hS.1 (fun h => h), hS.2.ext hx⟩
            have h7 := hx.blk h7 (fun h => h)
            have hLc := hLc.ext hx
            have hRs := hRs.ext hx
            by_cases hbet : isBetter x (stepV u (-1) (pN rN i n))
            · rw [if_pos hbet]
              have hbv : betterV x (stepV u (-1) (pN rN i n)) = stepV u (-1) (pN rN i n) := if_pos hbet
              obtain ⟨sl2, he2, hF2⟩ := hRs
              obtain ⟨rfl⟩ : sls = sl2 := by cases he2; rfl
              have hRs : RW _ (.agg #[.string (str (qtxt (stepV u (-1) (pN rN i n)).1)), sls]) (stepV u (-1) (pN rN i n)) := ⟨_, rfl, hF2⟩
              obtain ⟨B5, d5, rfl, _, _⟩ := hF2.shape
              (conv => whnf)
              refine ⟨hS, ?_⟩
              (conv => whnf)
              refine ⟨?_, trivial⟩
              obtain ⟨wz, hrz, hbz, hCz⟩ := store_blk (P := Tryz.prog) (vs := [.string (str (qtxt (stepV u (-1) (pN rN i n)).1)), .slice B5 (stepV u (-1) (pN rN i n)).2.length d5]) hbx rfl (by intro v hv; simp at hv; rcases hv with rfl | rfl <;> rfl)
              refine ⟨rfl, wz, hrz, ?_⟩
              refine ⟨⟨hCz.blk hS.1 (fun e => hne18 e), hS.2.trans hCz⟩, ?_⟩
              (conv => whnf)
              refine ⟨rfl, rfl, ?_⟩
              rw [hbv]
              exact ⟨_, hbz, hRs.stay hCz (not3 hbx (fun cur h => by cases h)), hS.2.trans hCz⟩
            · rw [if_neg hbet]
              have hbv : betterV x (stepV u (-1) (pN rN i n)) = x := if_neg hbet
              obtain ⟨sl2, he2, hF2⟩ := hRv
              obtain ⟨rfl⟩ : slv = sl2 := by cases he2; rfl
              have hRv : RW _ (.agg #[.string (str (qtxt x.1)), slv]) x := ⟨_, rfl, hF2⟩
              obtain ⟨B5, d5, rfl, _, _⟩ := hF2.shape
              (conv => whnf)
              refine ⟨hS, ?_⟩
              (conv => whnf)
              refine ⟨?_, trivial⟩
              obtain ⟨wz, hrz, hbz, hCz⟩ := store_blk (P := Tryz.prog) (vs := [.string (str (qtxt x.1)), .slice B5 x.2.length d5]) hbx rfl (by intro v hv; simp at hv; rcases hv with rfl | rfl <;> rfl)
              refine ⟨rfl, wz, hrz, ?_⟩
              refine ⟨⟨hCz.blk hS.1 (fun e => hne18 e), hS.2.trans hCz⟩, ?_⟩
              (conv => whnf)
              refine ⟨rfl, rfl, ?_⟩
              rw [hbv]
              exact ⟨_, hbz, hRv.stay hCz (not3 hbx (fun cur h => by cases h)), hS.2.trans hCz⟩
          · obtain ⟨slu', hslu, hFu⟩ := hRu
            obtain ⟨rfl⟩ : slu = slu' := by cases hslu; rfl
            have hRu : RW _ (.agg #[.string (str (qtxt u.1)), slu]) u := ⟨_, rfl, hFu⟩
            refine (tag1 b7 br u slu (-1) (pN rN i n) _ _ hLc h7 hFu.held (by have := hVu.l; omega) (hVu.d.mono (by omega)) (hdN.mono (by omega))).call ?_
            rintro _ wb ⟨sls, rfl, hFs⟩
            have hx := hFs.ext
            have hbx := hx.blk hbx (fun h => h)
            have hRv := hRv.ext hx
            have hRu := hRu.ext hx
            have hS : _ ∧ _ := ⟨hx.blk hS.1 (fun h => h), hS.2.ext hx⟩
            have h7 := hx.blk h7 (fun h => h)
            have hLc := hLc.ext hx
            have hRs := RW.of hFs
            (conv => whnf)
            refine ⟨hS, ?_⟩
            (conv => whnf)
            refine ⟨?_, trivial⟩
            refine ⟨_, rfl, cellsAt_blk hbx, ?_⟩
            (conv => whnf)
            refine ⟨hS, ?_⟩
            (conv => whnf)
            refine ⟨?_, trivial⟩
            obtain ⟨slv', hslv, hFv⟩ := hRv
            obtain ⟨rfl⟩ : slv = slv' := by cases hslv; rfl
            have hRv : RW _ (.agg #[.string (str (qtxt x.1)), slv]) x := ⟨_, rfl, hFv⟩
            refine (better x (stepV u (-1) (pN rN i n)) slv sls _ _ _ hLc hFv.read (by obtain ⟨s2, he, hF⟩ := hRs; cases he; exact hF.read) (hVx.d.mono (by omega)) (hVs.d.mono (by omega))).call ?_
            rintro _ wc ⟨rfl, hx⟩
            have hbx := hx.blk hbx (fun h => h)
            have hRv := hRv.ext hx
            have hRu := hRu.ext hx
            have hS : _ ∧ _ := ⟨hx.blk hS.1 (fun h => h), hS.2.ext hx⟩
            have h7 := hx.blk h7 (fun h => h)
            have hLc := hLc.ext hx
            have hRs := hRs.ext hx
            by_cases hbet : isBetter x (stepV u (-1) (pN rN i n))
            · rw [if_pos hbet]
              have hbv : betterV x (stepV u (-1) (pN rN i n)) = stepV u (-1) (pN rN i n) := if_pos hbet
              obtain ⟨sl2, he2, hF2⟩ := hRs
              obtain ⟨rfl⟩ : sls = sl2 := by cases he2; rfl
              have hRs : RW _ (.agg #[.string (str (qtxt (stepV u (-1) (pN rN i n)).1)), sls]) (stepV u (-1) (pN rN i n)) := ⟨_, rfl, hF2⟩
              obtain ⟨B5, d5, rfl, _, _⟩ := hF2.shape
              (conv => whnf)
              refine ⟨hS, ?_⟩
              (conv => whnf)
              refine ⟨?_, trivial⟩
              obtain ⟨wz, hrz, hbz, hCz⟩ := store_blk (P := Tryz.prog) (vs := [.string (str (qtxt (stepV u (-1) (pN rN i n)).1)), .slice B5 (stepV u (-1) (pN rN i n)).2.length d5]) hbx rfl (by intro v hv; simp at hv; rcases hv with rfl | rfl <;> rfl)
              refine ⟨rfl, wz, hrz, ?_⟩
              refine ⟨⟨hCz.blk hS.1 (fun e => hne18 e), hS.2.trans hCz⟩, ?_⟩
              (conv => whnf)
              refine ⟨rfl, rfl, ?_⟩
              rw [hbv]
              exact ⟨_, hbz, hRs.stay hCz (not3 hbx (fun cur h => by cases h)), hS.2.trans hCz⟩
            · rw [if_neg hbet]
              have hbv : betterV x (stepV u (-1) (pN rN i n)) = x := if_neg hbet
              obtain ⟨sl2, he2, hF2⟩ := hRv
              obtain ⟨rfl⟩ : slv = sl2 := by cases he2; rfl
              have hRv : RW _ (.agg #[.string (str (qtxt x.1)), slv]) x := ⟨_, rfl, hF2⟩
              obtain ⟨B5, d5, rfl, _, _⟩ := hF2.shape
              (conv => whnf)
              refine ⟨hS, ?_⟩
              (conv => whnf)
              refine ⟨?_, trivial⟩
              obtain ⟨wz, hrz, hbz, hCz⟩ := store_blk (P := Tryz.prog) (vs := [.string (str (qtxt x.1)), .slice B5 x.2.length d5]) hbx rfl (by intro v hv; simp at hv; rcases hv with rfl | rfl <;> rfl)
              refine ⟨rfl, wz, hrz, ?_⟩
              refine ⟨⟨hCz.blk hS.1 (fun e => hne18 e), hS.2.trans hCz⟩, ?_⟩
              (conv => whnf)
              refine ⟨rfl, rfl, ?_⟩
              rw [hbv]
              exact ⟨_, hbz, hRv.stay hCz (not3 hbx (fun cur h => by cases h)), hS.2.trans hCz⟩
      rintro _ w11 ⟨rfl, sl11, hb11, hR11, hC11⟩
      (repeat ((conv => whnf); first | refine numP_i64 (by omega) ?_ | refine numP_u64 (by omega) ?_ | refine numP_u8 (by omega) ?_ | refine Exists.intro _ (And.intro ‹_› ?_) | refine Exists.intro _ (And.intro rfl ?_) | refine And.intro (by omega) (Exists.intro _ (And.intro rfl ?_)) | refine And.intro (by omega) ?_)); (conv => whnf)
      refine ⟨⟨rfl, rfl⟩, ⟨i + 1, sl11, rfl, by omega, ?_, ?_, (hC8.ext (hE810.trans (Chg.drew No _))).trans hC11⟩, by simp; omega⟩
      · rw [hcs]; exact hb11
      · rw [hcs]; exact hR11
  clear hM hE34 hE4
  rintro _ w4 ⟨i0, bm, rfl, hi0, hM, hE34⟩
  have hE4 := hE3.trans hE34
  -- what the lists of the words so far are bounded by
  have hB : ∀ i u, getB ((cols.take i0).foldl (fun bl c => nextB rN rE n bl c) [(n, (1, []))]) i = some u → VD (1 + 48 * i0) i0 u ∧ i < n + 1 := by
    clear hM
    intro i u hu
    have := fold_bd hD _ (fun c hc => hD.c c (List.mem_of_mem_take hc)) i u hu
    have hl := List.length_take_le i0 cols
    exact ⟨this.1.mono (by omega) (by omega), this.2⟩
  have hlc := hD.lc
  generalize hbl : (cols.take i0).foldl (fun bl c => nextB rN rE n bl c) [(n, (1, []))] = bl at *
  (conv => whnf)
  rw [List.length_map]
  refine condP_dec (fun h1 => ?_) (fun h1 => ?_)
  · obtain ⟨cc, hcc⟩ : ∃ cc, cols[i0]? = some cc := ⟨_, List.getElem?_eq_getElem (by omega)⟩
    have hccw := hD.c cc (List.mem_of_getElem? hcc)
    have hcg : (cols.map fun c : Nat => (c : Int)).getD i0 0 = (cc : Int) := by rw [List.getD_eq_getElem?_getD, List.getElem?_map, hcc]; rfl
    obtain ⟨ad, rfl, hcell⟩ := (hC.ext hE4).i (i0 : Int) (by omega) (by rw [List.length_map]; omega)
    rw [Int.toNat_natCast, hcg] at hcell
    have hcell : w4.cell? (ad.add ((i0 : Int).toNat * 1)) = some (.int .i64 (cc : Int)) := by rw [Int.toNat_natCast]; exact hcell
    (repeat ((conv => whnf); first | refine numP_i64 (by omega) ?_ | refine numP_u64 (by omega) ?_ | refine numP_u8 (by omega) ?_ | refine Exists.intro _ (And.intro ‹_› ?_) | refine Exists.intro _ (And.intro rfl ?_) | refine And.intro (by omega) (Exists.intro _ (And.intro rfl ?_)) | refine And.intro (by omega) ?_)); (conv => whnf)
    intro bn w5 hw5
    have hE45 : Ext w4 w5 := hw5.chg _
    have hE35 := hE34.trans hE45
    have hMn : MB w5 bn ((List.range 0).map fun j => (j, cellB (fun i u => stepV u j (pN rN i j * pN rE j cc)) bl (n + 1))) := ⟨[], hw5.blk, trivial⟩
    have hbmn : bm < w4.heap.size := by obtain ⟨es, h5, _⟩ := hM; exact (Array.getElem?_eq_some_iff.1 h5).1
    have hM := hM.ext hE45
    have hnbn := hw5.hb
    have hnemn : ¬ bm = bn := by omega
    have hs4 := hE34.size
    (conv => whnf)
    refine ⟨_, by rw [addr_add, addr_add, cell_of_blk ((hE3.trans hE35).blk hR (fun h => h))]; rfl, ?_⟩
    (conv => whnf)
    refine loop_box tok 2 [45] [0, 3, 4, 7, 10, 11, 13, 14, 32, 33, 34, 44] [] (fun vs w' => ∃ j : Nat, vs = [.int .i64 j] ∧ j ≤ n ∧ MB w' bm bl ∧ MB w' bn ((List.range j).map fun j => (j, cellB (fun i u => stepV u j (pN rN i j * pN rE j cc)) bl (n + 1))) ∧ Ext w4 w') (fun vs w => match vs with | [.int _ j] => n - j.toNat | _ => 0)
      (fun vs w' => vs = [] ∧ MB w' bn (nextB rN rE n bl cc) ∧ Ext w4 w') ?_
    (conv => whnf)
    refine ⟨⟨0, rfl, Nat.zero_le _, hM, hMn, hE45⟩, ?_, ?_⟩
    rotate_left
    · rintro _ w5 ⟨rfl, hMn, hE45⟩
      (repeat ((conv => whnf); first | refine numP_i64 (by omega) ?_ | refine numP_u64 (by omega) ?_ | refine numP_u8 (by omega) ?_ | refine Exists.intro _ (And.intro ‹_› ?_) | refine Exists.intro _ (And.intro rfl ?_) | refine And.intro (by omega) (Exists.intro _ (And.intro rfl ?_)) | refine And.intro (by omega) ?_)); (conv => whnf)
      refine ⟨⟨rfl, rfl⟩, ⟨i0 + 1, bn, rfl, by omega, ?_, hE34.trans hE45⟩, by simp; omega⟩
      rw [List.take_add_one, hcc, List.foldl_append, hbl]
      exact hMn
    clear hM hMn hw5 hE45 hE35
    rintro _ w5 ⟨j, rfl, hj, hM, hMn, hE45⟩
    have hE35 := hE34.trans hE45
    have hE5 := hE3.trans hE35
    (conv => whnf)
    refine condP_dec (fun h2 => ?_) (fun h2 => ?_)
    · (conv => whnf)
      refine ⟨_, rfl, cellsAt_blk (hE35.blk hb9 (fun h => h)), ?_⟩
      (conv => whnf)
      intro b16 w6 hw6
      obtain ⟨w7, hr7, hb7', hC7⟩ := store_blk (P := Tryz.prog) (vs := [.string (str (qtxt 0)), .slice none 0 0]) hw6.blk rfl (by intro v hv; simp at hv; rcases hv with rfl | rfl <;> rfl)
      (conv => whnf)
      refine ⟨rfl, w7, hr7, ?_⟩
      have hn16 := hw6.hb
      have hE57 : Ext w5 w7 := (hw6.chg No).then hC7 fun i hi e => by omega
      have hM := hM.ext hE57
      have hMn := hMn.ext hE57
      have hE7 := hE5.trans hE57
      have hs5 := hE5.size
      clear hw6 hr7 hC7
      (conv => whnf)
      refine (ends br n c1 A1 _ _ _ _ w7 (hE7.blk hR (fun h => h))).call ?_
      rintro _ w7 ⟨rfl, rfl⟩
      (repeat ((conv => whnf); first | refine numP_i64 (by omega) ?_ | refine numP_u64 (by omega) ?_ | refine numP_u8 (by omega) ?_ | refine Exists.intro _ (And.intro ‹_› ?_) | refine Exists.intro _ (And.intro rfl ?_) | refine And.intro (by omega) (Exists.intro _ (And.intro rfl ?_)) | refine And.intro (by omega) ?_)); (conv => whnf)
      refine loop_box tok 4 [52] [0, 3, 4, 7, 10, 11, 13, 14, 15, 16, 32, 33, 34, 44, 45, 51] [] (fun vs w' => ∃ (i : Nat) (sl : Value), vs = [.int .i64 i] ∧ i ≤ n + 1 ∧ w'.heap[b16]? = some (.cells #[.string (str (qtxt (cellB (fun i u => stepV u j (pN rN i j * pN rE j cc)) bl i).1)), sl] 80 (0, 0)) ∧ RW w' (.agg #[.string (str (qtxt (cellB (fun i u => stepV u j (pN rN i j * pN rE j cc)) bl i).1)), sl]) (cellB (fun i u => stepV u j (pN rN i j * pN rE j cc)) bl i) ∧ Chg (fun b => b = b16) w7 w') (fun vs w => match vs with | [.int _ i] => n + 1 - i.toNat | _ => 0)
        (fun vs w' => ∃ sl : Value, vs = [] ∧ w'.heap[b16]? = some (.cells #[.string (str (qtxt (cellB (fun i u => stepV u j (pN rN i j * pN rE j cc)) bl (n + 1)).1)), sl] 80 (0, 0)) ∧ RW w' (.agg #[.string (str (qtxt (cellB (fun i u => stepV u j (pN rN i j * pN rE j cc)) bl (n + 1)).1)), sl]) (cellB (fun i u => stepV u j (pN rN i j * pN rE j cc)) bl (n + 1)) ∧ Chg (fun b => b = b16) w7 w') ?_
      (conv => whnf)
      have hne16 : ∀ {b : Nat} {bl : List (Nat × V)}, MB w7 b bl → ¬ b = b16 := fun h e => by obtain ⟨es, h1, _⟩ := h; rw [e, hb7'] at h1; cases h1
      have hn3 := not3 hb7' (fun cur h => by cases h)
      have hb16n := (Array.getElem?_eq_some_iff.1 hb7').1
      have hs7 := hE57.size
      refine ⟨⟨0, _, rfl, Nat.zero_le _, hb7', RW.nil _ 0, .refl _ _⟩, ?_, ?_⟩
      rotate_left
      · rintro _ w8 ⟨slv, rfl, hbx, hRv, hC8⟩
        have hslv : slv.oneCell' = true := by obtain ⟨sl2, he, hF⟩ := hRv; cases he; obtain ⟨Ax, cx, rfl, _, _⟩ := hF.shape; rfl
        have hs8 := hC8.size
        (conv => whnf)
        refine ⟨_, rfl, cellsAt_blk hbx, ?_⟩
        (conv => whnf)
        obtain ⟨es, hes, hR2⟩ := hMn.stay hC8 (hne16 hMn) hn3
        refine sem_update tok rfl keyI (k := (j : Int)) rfl rfl rfl hes fun w9 hw9 => ?_
        have hC9 : Chg (fun b => b = bn) w8 w9 := hw9.chg _ rfl
        have hn39 := not3 hes (fun cur h => by cases h)
        have hR29 : R2 w8 (aset es (j : Int) (.agg #[.string (str (qtxt (cellB (fun i u => stepV u j (pN rN i j * pN rE j cc)) bl (n + 1)).1)), slv])) _ := hR2.snoc (getB_next_none (Nat.le_refl _)) hRv
        have hMn9 : MB w9 bn ((List.range (j + 1)).map fun j => (j, cellB (fun i u => stepV u j (pN rN i j * pN rE j cc)) bl (n + 1))) := by
          rw [range_next]
          exact ⟨_, hw9.blk hes, R2.stay hC9 hn39 hR29⟩
        have hM9 : MB w9 bm bl := (hM.stay hC8 (hne16 hM) hn3).stay hC9 (fun e => hnemn e) hn39
        (repeat ((conv => whnf); first | refine numP_i64 (by omega) ?_ | refine numP_u64 (by omega) ?_ | refine numP_u8 (by omega) ?_ | refine Exists.intro _ (And.intro ‹_› ?_) | refine Exists.intro _ (And.intro rfl ?_) | refine And.intro (by omega) (Exists.intro _ (And.intro rfl ?_)) | refine And.intro (by omega) ?_)); (conv => whnf)
        refine ⟨⟨rfl, rfl⟩, ⟨j + 1, rfl, by omega, hM9, hMn9, ?_⟩, by simp; omega⟩
        exact ((hE45.trans hE57).then hC8 fun k hk e => by have := hE45.size; omega).then hC9 fun k hk e => by omega
      rintro _ w8 ⟨i, slv, rfl, hi, hbx, hRv, hC8⟩
      have hM8 := hM.stay hC8 (hne16 hM) hn3
      have hE8 : Ext w w8 := hE7.then hC8 fun k hk e => by omega
      have hs8 := hC8.size
      (conv => whnf)
      refine condP_dec (fun h3 => ?_) (fun h3 => ?_)
      · (conv => whnf)
        refine sem_lookB rfl rfl hM8 (fun hg2 => ?_) (fun slu u hg2 hFu0 => ?_)
        · (conv => whnf)
          intro b18 w9 hw9
          obtain ⟨w10, hr10, hb10', hC10⟩ := store_blk (P := Tryz.prog) (vs := [.string ⟨#[]⟩, .slice none 0 0]) hw9.blk rfl (by intro v hv; simp at hv; rcases hv with rfl | rfl <;> rfl)
          (conv => whnf)
          refine ⟨rfl, w10, hr10, ?_⟩
          have hE810 : Ext w8 w10 := (hw9.chg No).then hC10 fun k hk e => by have := hw9.hb; omega
          (repeat ((conv => whnf); first | refine numP_i64 (by omega) ?_ | refine numP_u64 (by omega) ?_ | refine numP_u8 (by omega) ?_ | refine Exists.intro _ (And.intro ‹_› ?_) | refine Exists.intro _ (And.intro rfl ?_) | refine And.intro (by omega) (Exists.intro _ (And.intro rfl ?_)) | refine And.intro (by omega) ?_)); (conv => whnf)
          refine ⟨⟨rfl, rfl⟩, ⟨i + 1, slv, rfl, by omega, ?_, ?_, hC8.ext hE810⟩, by simp; omega⟩
          · rw [cellB_succ, hg2]; exact hE810.blk hbx (fun h => h)
          · rw [cellB_succ, hg2]; exact hRv.ext hE810
        · obtain ⟨hVu, hin⟩ := hB i u hg2
          (conv => whnf)
          intro b18 w9 hw9
          have hslu : slu.oneCell' = true := by obtain ⟨Ax, cx, rfl, _, _⟩ := hFu0.shape; rfl
          obtain ⟨w10, hr10, hb10', hC10⟩ := store_blk (P := Tryz.prog) (vs := [.string (str (qtxt u.1)), slu]) hw9.blk rfl (by intro v hv; simp at hv; rcases hv with rfl | rfl; rfl; exact hslu)
          (conv => whnf)
          refine ⟨rfl, w10, hr10, ?_⟩
          have hn18 := hw9.hb
          have hE810 : Ext w8 w10 := (hw9.chg No).then hC10 fun k hk e => by omega
          have hVx : VD (1 + 48 * i0 + 48) (i0 + 1) (cellB (fun i u => stepV u j (pN rN i j * pN rE j cc)) bl i) := VD.cell (by omega) (fun i' u hu => by
            obtain ⟨h5, h6⟩ := hB i' u hu
            exact h5.step ((hD.dn i' j h6 (by omega)).mul (hD.de j cc (by omega) hccw)) (by omega)) i
          have hdN := hD.dn i j hin (by omega)
          have hdE := hD.de j cc (by omega) hccw
          have hVs : VD (1 + 48 * i0 + 48) (i0 + 1) (stepV u j (pN rN i j * pN rE j cc)) := hVu.step (hdN.mul hdE) (by omega)
          have hcs : cellB (fun i u => stepV u j (pN rN i j * pN rE j cc)) bl (i + 1) = betterV (cellB (fun i u => stepV u j (pN rN i j * pN rE j cc)) bl i) (stepV u j (pN rN i j * pN rE j cc)) := by rw [cellB_succ, hg2]
          generalize hxd : cellB (fun i u => stepV u j (pN rN i j * pN rE j cc)) bl i = x at *
          have hRu : RW w8 (.agg #[.string (str (qtxt u.1)), slu]) u := ⟨_, rfl, hFu0⟩
          obtain ⟨aN, aN2, cN2, rfl, hcN1, hcN2, hlN1, hlN2⟩ := mat_at hN (i := i) (j := j) (by have := hD.ln; omega) (by rw [hD.rn i (by omega)]; omega)
          obtain ⟨aE, aE2, cE2, rfl, hcE1, hcE2, hlE1, hlE2⟩ := mat_at hE (i := j) (j := cc) (by have := hD.le; omega) (by rw [hD.re j (by omega)]; exact hccw)
          have hES : Ext w w10.drew := (hE8.trans hE810).trans (Chg.drew No _)
          have hRS := hES.blk hR (fun h => h)
          have hlRN : (rN.getD i []).length = n + 1 := hD.rn i (by omega)
          have hlRE : (rE.getD j []).length = wd := hD.re j (by omega)
          have hln := hD.ln
          have hle := hD.le
          have hlnm : (rN.map fun r => r.map qtxt).length = n + 1 := by rw [List.length_map]; exact hln
          have hlem : (rE.map fun r => r.map qtxt).length = n := by rw [List.length_map]; exact hle
          have hs18 := hE810.size
          (conv => whnf)
          refine draw_box [0, 3, 4, 7, 10, 11, 13, 14, 15, 16, 32, 33, 34, 44, 45, 51, 52] (fun vs w' => vs = [.pointer (some ⟨br, 0, none⟩), .func (.func 30) #[] #[.pointer (some ⟨b7, 0, none⟩)], .func (.func 34) #[] #[], .pointer (some ⟨b9, 0, none⟩), .pointer (some ⟨b10, 0, none⟩), .map (some bm), .int .i64 (cc : Int), .map (some bn), .int .i64 (j : Int), .pointer (some ⟨b16, 0, none⟩), .slice (some ad) cols.length c5, .int .i64 (cols.length : Nat), .int .i64 (i0 : Int), .int .i64 (n : Nat), .int .i64 (j : Int), .int .i64 ((n : Int) + 1), .int .i64 (i : Int)] ∧
            ∃ sl, w'.heap[b16]? = some (.cells #[.string (str (qtxt (betterV x (stepV u j (pN rN i j * pN rE j cc))).1)), sl] 80 (0, 0)) ∧ RW w' (.agg #[.string (str (qtxt (betterV x (stepV u j (pN rN i j * pN rE j cc))).1)), sl]) (betterV x (stepV u j (pN rN i j * pN rE j cc))) ∧ Chg (fun b => b = b16) w10.drew w') ?_ ?_
          · have hEd : Ext w8 w10.drew := hE810.trans (Chg.drew No _)
            have hbx := hEd.blk hbx (fun h => h)
            have hRv := hRv.ext hEd
            have hRu := hRu.ext hEd
            have h7 := hES.blk h7 (fun h => h)
            have hLc := hL.ext hES
            have hne18 : ¬ b18 = b16 := by omega
            have hS : w10.drew.heap[b18]? = some (.cells #[.string (str (qtxt u.1)), slu] 80 (0, 0)) ∧ Chg (fun b => b = b16) w10.drew w10.drew := ⟨hb10', .refl _ _⟩
            refine draw_held tok mixed (fun w' => w'.heap[b18]? = some (.cells #[.string (str (qtxt u.1)), slu] 80 (0, 0)) ∧ Chg (fun b => b = b16) w10.drew w')
              (ones [0, 2, 3, 4, 5, 6, 7, 8, 9, 10, 11, 12, 13, 14, 15, 16, 17, 18, 19, 20, 21, 22, 23, 24, 25, 26, 27] (.alt 1 (.alt 28 (.alt 29 (.alt 30 (.alt 31 .done .nil) .nil) .nil) .nil) (.alt 28 (.alt 1 (.alt 29 (.alt 30 (.alt 31 .done .nil) .nil) .nil) (.alt 29 (.alt 1 (.alt 30 (.alt 31 .done .nil) .nil) .nil) .nil)) .nil))) (by decide +kernel) (by decide +kernel) hS ?_
            (conv => whnf)
            refine ⟨_, rfl, fun w' h => cellsAt_blk h.1, ?_⟩
            (conv => whnf)
            refine ⟨_, fun w' h => (by rw [addr_add, addr_add, cell_of_blk (h.2.blk hRS (by omega))]; rfl), ?_⟩
            (repeat ((conv => whnf); first | refine numP_i64 (by omega) ?_ | refine numP_u64 (by omega) ?_ | refine numP_u8 (by omega) ?_ | refine Exists.intro _ (And.intro ‹_› ?_) | refine Exists.intro _ (And.intro rfl ?_) | refine And.intro (by omega) (Exists.intro _ (And.intro rfl ?_)) | refine And.intro (by omega) ?_)); (conv => whnf)
            refine ⟨_, fun w' h => (by rw [Int.toNat_natCast]; exact h.2.cell (hES.cell hcN1 (fun h => h)) (by rw [add_block]; omega)), ?_⟩
            (repeat ((conv => whnf); first | refine numP_i64 (by omega) ?_ | refine numP_u64 (by omega) ?_ | refine numP_u8 (by omega) ?_ | refine Exists.intro _ (And.intro ‹_› ?_) | refine Exists.intro _ (And.intro rfl ?_) | refine And.intro (by omega) (Exists.intro _ (And.intro rfl ?_)) | refine And.intro (by omega) ?_)); (conv => whnf)
            refine ⟨_, fun w' h => (by rw [Int.toNat_natCast]; exact h.2.cell (hES.cell hcN2 (fun h => h)) (by rw [add_block]; omega)), ?_⟩
            (conv => whnf)
            refine ⟨_, fun w' h => (by rw [addr_add, addr_add, cell_of_blk (h.2.blk hRS (by omega))]; rfl), ?_⟩
            (repeat ((conv => whnf); first | refine numP_i64 (by omega) ?_ | refine numP_u64 (by omega) ?_ | refine numP_u8 (by omega) ?_ | refine Exists.intro _ (And.intro ‹_› ?_) | refine Exists.intro _ (And.intro rfl ?_) | refine And.intro (by omega) (Exists.intro _ (And.intro rfl ?_)) | refine And.intro (by omega) ?_)); (conv => whnf)
            refine ⟨_, fun w' h => (by rw [Int.toNat_natCast]; exact h.2.cell (hES.cell hcE1 (fun h => h)) (by rw [add_block]; omega)), ?_⟩
            (repeat ((conv => whnf); first | refine numP_i64 (by omega) ?_ | refine numP_u64 (by omega) ?_ | refine numP_u8 (by omega) ?_ | refine Exists.intro _ (And.intro ‹_› ?_) | refine Exists.intro _ (And.intro rfl ?_) | refine And.intro (by omega) (Exists.intro _ (And.intro rfl ?_)) | refine And.intro (by omega) ?_)); (conv => whnf)
            refine ⟨_, fun w' h => (by rw [Int.toNat_natCast]; exact h.2.cell (hES.cell hcE2 (fun h => h)) (by rw [add_block]; omega)), ?_⟩
            (conv => whnf)
            refine ⟨?_, ?_, trivial⟩
            · refine ⟨_, rfl, cellsAt_blk hbx, ?_⟩
              (conv => whnf)
              refine ⟨hS, ?_⟩
              (conv => whnf)
              refine ⟨?_, trivial⟩
              refine (times _ (pN rN i j) (pN rE j cc) _ hLc (hdN.mono (by omega)) (hdE.mono (by omega))).call ?_
              rintro _ wa ⟨rfl, hx⟩
              have hbx := hx.blk hbx (fun h => h)
              have hRv := hRv.ext hx
              have hRu := hRu.ext hx
              have hS : _ ∧ _ := ⟨hx.blk hS.1 (fun h => h), hS.2.ext hx⟩
              have h7 := hx.blk h7 (fun h => h)
              have hLc := hLc.ext hx
              (conv => whnf)
              refine ⟨hS, ?_⟩
              (conv => whnf)
              refine ⟨?_, trivial⟩
              obtain ⟨slu', hslu, hFu⟩ := hRu
              obtain ⟨rfl⟩ : slu = slu' := by cases hslu; rfl
              have hRu : RW _ (.agg #[.string (str (qtxt u.1)), slu]) u := ⟨_, rfl, hFu⟩
              refine (tag1 b7 br u slu j (pN rN i j * pN rE j cc) _ _ hLc h7 hFu.held (by have := hVu.l; omega) (hVu.d.mono (by omega)) ((hdN.mul hdE).mono (by omega))).call ?_
              rintro _ wb ⟨sls, rfl, hFs⟩
              have hx := hFs.ext
              have hbx := hx.blk hbx (fun h => h)
              have hRv := hRv.ext hx
              have hRu := hRu.ext hx
              have hS : _ ∧ _ := ⟨hx.blk hS.1 (fun h => h), hS.2.ext hx⟩
              have h7 := hx.blk h7 (fun h => h)
              have hLc := hLc.ext hx
              have hRs := RW.of hFs
              (conv => whnf)
              refine ⟨hS, ?_⟩
              (conv => whnf)
              refine ⟨?_, trivial⟩
              obtain ⟨slv', hslv, hFv⟩ := hRv
              obtain ⟨rfl⟩ : slv = slv' := by cases hslv; rfl
              have hRv : RW _ (.agg #[.string (str (qtxt x.1)), slv]) x := ⟨_, rfl, hFv⟩
              refine (better x (stepV u j (pN rN i j * pN rE j cc)) slv sls _ _ _ hLc hFv.read (by obtain ⟨s2, he, hF⟩ := hRs; cases he; exact hF.read) (hVx.d.mono (by omega)) (hVs.d.mono (by omega))).call ?_
              rintro _ wc ⟨rfl, hx⟩
              have hbx := hx.blk hbx (fun h => h)
              have hRv := hRv.ext hx
              have hRu := hRu.ext hx
              have hS : _ ∧ _ := ⟨hx.blk hS.1 (fun h => h), hS.2.ext hx⟩
              have h7 := hx.blk h7 (fun h => h)
              have hLc := hLc.ext hx
              have hRs := hRs.ext hx
              by_cases hbet : isBetter x (stepV u j (pN rN i j * pN rE j cc))
              · rw [if_pos hbet]
                have hbv : betterV x (stepV u j (pN rN i j * pN rE j cc)) = stepV u j (pN rN i j * pN rE j cc) := if_pos hbet
                obtain ⟨sl2, he2, hF2⟩ := hRs
                obtain ⟨rfl⟩ : sls = sl2 := by cases he2; rfl
                have hRs : RW _ (.agg #[.string (str (qtxt (stepV u j (pN rN i j * pN rE j cc)).1)), sls]) (stepV u j (pN rN i j * pN rE j cc)) := ⟨_, rfl, hF2⟩
                obtain ⟨B5, d5, rfl, _, _⟩ := hF2.shape
                (conv => whnf)
                refine ⟨hS, ?_⟩
                (conv => whnf)
                refine ⟨?_, trivial⟩
                obtain ⟨wz, hrz, hbz, hCz⟩ := store_blk (P := Tryz.prog) (vs := [.string (str (qtxt (stepV u j (pN rN i j * pN rE j cc)).1)), .slice B5 (stepV u j (pN rN i j * pN rE j cc)).2.length d5]) hbx rfl (by intro v hv; simp at hv; rcases hv with rfl | rfl <;> rfl)
                refine ⟨rfl, wz, hrz, ?_⟩
                refine ⟨⟨hCz.blk hS.1 (fun e => hne18 e), hS.2.trans hCz⟩, ?_⟩
                (conv => whnf)
                refine ⟨rfl, rfl, ?_⟩
                rw [hbv]
                exact ⟨_, hbz, hRs.stay hCz (not3 hbx (fun cur h => by cases h)), hS.2.trans hCz⟩
              · rw [if_neg hbet]
                have hbv : betterV x (stepV u j (pN rN i j * pN rE j cc)) = x := if_neg hbet
                obtain ⟨sl2, he2, hF2⟩ := hRv
                obtain ⟨rfl⟩ : slv = sl2 := by cases he2; rfl
                have hRv : RW _ (.agg #[.string (str (qtxt x.1)), slv]) x := ⟨_, rfl, hF2⟩
                obtain ⟨B5, d5, rfl, _, _⟩ := hF2.shape
                (conv => whnf)
                refine ⟨hS, ?_⟩
                (conv => whnf)
                refine ⟨?_, trivial⟩
                obtain ⟨wz, hrz, hbz, hCz⟩ := store_blk (P := Tryz.prog) (vs := [.string (str (qtxt x.1)), .slice B5 x.2.length d5]) hbx rfl (by intro v hv; simp at hv; rcases hv with rfl | rfl <;> rfl)
                refine ⟨rfl, wz, hrz, ?_⟩
                refine ⟨⟨hCz.blk hS.1 (fun e => hne18 e), hS.2.trans hCz⟩, ?_⟩
                (conv => whnf)
                refine ⟨rfl, rfl, ?_⟩
                rw [hbv]
                exact ⟨_, hbz, hRv.stay hCz (not3 hbx (fun cur h => by cases h)), hS.2.trans hCz⟩
            · refine (times _ (pN rN i j) (pN rE j cc) _ hLc (hdN.mono (by omega)) (hdE.mono (by omega))).call ?_
              rintro _ wa ⟨rfl, hx⟩
              have hbx := hx.blk hbx (fun h => h)
              have hRv := hRv.ext hx
              have hRu := hRu.ext hx
              have hS : _ ∧ _ := ⟨hx.blk hS.1 (fun h => h), hS.2.ext hx⟩
              have h7 := hx.blk h7 (fun h => h)
              have hLc := hLc.ext hx
              (conv => whnf)
              refine ⟨hS, ?_⟩
              (conv => whnf)
              refine ⟨?_, ?_, trivial⟩
              · refine ⟨_, rfl, cellsAt_blk hbx, ?_⟩
                (conv => whnf)
                refine ⟨hS, ?_⟩
                (conv => whnf)
                refine ⟨?_, trivial⟩
                obtain ⟨slu', hslu, hFu⟩ := hRu
                obtain ⟨rfl⟩ : slu = slu' := by cases hslu; rfl
                have hRu : RW _ (.agg #[.string (str (qtxt u.1)), slu]) u := ⟨_, rfl, hFu⟩
                refine (tag1 b7 br u slu j (pN rN i j * pN rE j cc) _ _ hLc h7 hFu.held (by have := hVu.l; omega) (hVu.d.mono (by omega)) ((hdN.mul hdE).mono (by omega))).call ?_
                rintro _ wb ⟨sls, rfl, hFs⟩
                have hx := hFs.ext
                have hbx := hx.blk hbx (fun h => h)
                have hRv := hRv.ext hx
                have hRu := hRu.ext hx
                have hS : _ ∧ _ := ⟨hx.blk hS.1 (fun h => h), hS.2.ext hx⟩
                have h7 := hx.blk h7 (fun h => h)
                have hLc := hLc.ext hx
                have hRs := RW.of hFs
                (conv => whnf)
                refine ⟨hS, ?_⟩
                (conv => whnf)
                refine ⟨?_, trivial⟩
                obtain ⟨slv', hslv, hFv⟩ := hRv
                obtain ⟨rfl⟩ : slv = slv' := by cases hslv; rfl
                have hRv : RW _ (.agg #[.string (str (qtxt x.1)), slv]) x := ⟨_, rfl, hFv⟩
                refine (better x (stepV u j (pN rN i j * pN rE j cc)) slv sls _ _ _ hLc hFv.read (by obtain ⟨s2, he, hF⟩ := hRs; cases he; exact hF.read) (hVx.d.mono (by omega)) (hVs.d.mono (by omega))).call ?_
                rintro _ wc ⟨rfl, hx⟩
                have hbx := hx.blk hbx (fun h => h)
                have hRv := hRv.ext hx
                have hRu := hRu.ext hx
                have hS : _ ∧ _ := ⟨hx.blk hS.1 (fun h => h), hS.2.ext hx⟩
                have h7 := hx.blk h7 (fun h => h)
                have hLc := hLc.ext hx
                have hRs := hRs.ext hx
                by_cases hbet : isBetter x (stepV u j (pN rN i j * pN rE j cc))
                · rw [if_pos hbet]
                  have hbv : betterV x (stepV u j (pN rN i j * pN rE j cc)) = stepV u j (pN rN i j * pN rE j cc) := if_pos hbet
                  obtain ⟨sl2, he2, hF2⟩ := hRs
                  obtain ⟨rfl⟩ : sls = sl2 := by cases he2; rfl
                  have hRs : RW _ (.agg #[.string (str (qtxt (stepV u j (pN rN i j * pN rE j cc)).1)), sls]) (stepV u j (pN rN i j * pN rE j cc)) := ⟨_, rfl, hF2⟩
                  obtain ⟨B5, d5, rfl, _, _⟩ := hF2.shape
                  (conv => whnf)
                  refine ⟨hS, ?_⟩
                  (conv => whnf)
                  refine ⟨?_, trivial⟩
                  obtain ⟨wz, hrz, hbz, hCz⟩ := store_blk (P := Tryz.prog) (vs := [.string (str (qtxt (stepV u j (pN rN i j * pN rE j cc)).1)), .slice B5 (stepV u j (pN rN i j * pN rE j cc)).2.length d5]) hbx rfl (by intro v hv; simp at hv; rcases hv with rfl | rfl <;> rfl)
                  refine ⟨rfl, wz, hrz, ?_⟩
                  refine ⟨⟨hCz.blk hS.1 (fun e => hne18 e), hS.2.trans hCz⟩, ?_⟩
                  (conv => whnf)
                  refine ⟨rfl, rfl, ?_⟩
                  rw [hbv]
                  exact ⟨_, hbz, hRs.stay hCz (not3 hbx (fun cur h => by cases h)), hS.2.trans hCz⟩
                · rw [if_neg hbet]
                  have hbv : betterV x (stepV u j (pN rN i j * pN rE j cc)) = x := if_neg hbet
                  obtain ⟨sl2, he2, hF2⟩ := hRv
                  obtain ⟨rfl⟩ : slv = sl2 := by cases he2; rfl
                  have hRv : RW _ (.agg #[.string (str (qtxt x.1)), slv]) x := ⟨_, rfl, hF2⟩
                  obtain ⟨B5, d5, rfl, _, _⟩ := hF2.shape
                  (conv => whnf)
                  refine ⟨hS, ?_⟩
                  (conv => whnf)
                  refine ⟨?_, trivial⟩
                  obtain ⟨wz, hrz, hbz, hCz⟩ := store_blk (P := Tryz.prog) (vs := [.string (str (qtxt x.1)), .slice B5 x.2.length d5]) hbx rfl (by intro v hv; simp at hv; rcases hv with rfl | rfl <;> rfl)
                  refine ⟨rfl, wz, hrz, ?_⟩
                  refine ⟨⟨hCz.blk hS.1 (fun e => hne18 e), hS.2.trans hCz⟩, ?_⟩
                  (conv => whnf)
                  refine ⟨rfl, rfl, ?_⟩
                  rw [hbv]
                  exact ⟨_, hbz, hRv.stay hCz (not3 hbx (fun cur h => by cases h)), hS.2.trans hCz⟩
              · obtain ⟨slu', hslu, hFu⟩ := hRu
                obtain ⟨rfl⟩ : slu = slu' := by cases hslu; rfl
                have hRu : RW _ (.agg #[.string (str (qtxt u.1)), slu]) u := ⟨_, rfl, hFu⟩
                refine (tag1 b7 br u slu j (pN rN i j * pN rE j cc) _ _ hLc h7 hFu.held (by have := hVu.l; omega) (hVu.d.mono (by omega)) ((hdN.mul hdE).mono (by omega))).call ?_
                rintro _ wb ⟨sls, rfl, hFs⟩
                have hx := hFs.ext
                have hbx := hx.blk hbx (fun h => h)
                have hRv := hRv.ext hx
                have hRu := hRu.ext hx
                have hS : _ ∧ _ := ⟨hx.blk hS.1 (fun h => h), hS.2.ext hx⟩
                have h7 := hx.blk h7 (fun h => h)
                have hLc := hLc.ext hx
                have hRs := RW.of hFs
                (conv => whnf)
                refine ⟨hS, ?_⟩
                (conv => whnf)
                refine ⟨?_, trivial⟩
                refine ⟨_, rfl, cellsAt_blk hbx, ?_⟩
                (conv => whnf)
                refine ⟨hS, ?_⟩
                (conv => whnf)
                refine ⟨?_, trivial⟩
                obtain ⟨slv', hslv, hFv⟩ := hRv
                obtain ⟨rfl⟩ : slv = slv' := by cases hslv; rfl
                have hRv : RW _ (.agg #[.string (str (qtxt x.1)), slv]) x := ⟨_, rfl, hFv⟩
                refine (better x (stepV u j (pN rN i j * pN rE j cc)) slv sls _ _ _ hLc hFv.read (by obtain ⟨s2, he, hF⟩ := hRs; cases he; exact hF.read) (hVx.d.mono (by omega)) (hVs.d.mono (by omega))).call ?_
                rintro _ wc ⟨rfl, hx⟩
                have hbx := hx.blk hbx (fun h => h)
                have hRv := hRv.ext hx
                have hRu := hRu.ext hx
                have hS : _ ∧ _ := ⟨hx.blk hS.1 (fun h => h), hS.2.ext hx⟩
                have h7 := hx.blk h7 (fun h => h)
                have hLc := hLc.ext hx
                have hRs := hRs.ext hx
                by_cases hbet : isBetter x (stepV u j (pN rN i j * pN rE j cc))
                · rw [if_pos hbet]
                  have hbv : betterV x (stepV u j (pN rN i j * pN rE j cc)) = stepV u j (pN rN i j * pN rE j cc) := if_pos hbet
                  obtain ⟨sl2, he2, hF2⟩ := hRs
                  obtain ⟨rfl⟩ : sls = sl2 := by cases he2; rfl
                  have hRs : RW _ (.agg #[.string (str (qtxt (stepV u j (pN rN i j * pN rE j cc)).1)), sls]) (stepV u j (pN rN i j * pN rE j cc)) := ⟨_, rfl, hF2⟩
                  obtain ⟨B5, d5, rfl, _, _⟩ := hF2.shape
                  (conv => whnf)
                  refine ⟨hS, ?_⟩
                  (conv => whnf)
                  refine ⟨?_, trivial⟩
                  obtain ⟨wz, hrz, hbz, hCz⟩ := store_blk (P := Tryz.prog) (vs := [.string (str (qtxt (stepV u j (pN rN i j * pN rE j cc)).1)), .slice B5 (stepV u j (pN rN i j * pN rE j cc)).2.length d5]) hbx rfl (by intro v hv; simp at hv; rcases hv with rfl | rfl <;> rfl)
                  refine ⟨rfl, wz, hrz, ?_⟩
                  refine ⟨⟨hCz.blk hS.1 (fun e => hne18 e), hS.2.trans hCz⟩, ?_⟩
                  (conv => whnf)
                  refine ⟨rfl, rfl, ?_⟩
                  rw [hbv]
                  exact ⟨_, hbz, hRs.stay hCz (not3 hbx (fun cur h => by cases h)), hS.2.trans hCz⟩
                · rw [if_neg hbet]
                  have hbv : betterV x (stepV u j (pN rN i j * pN rE j cc)) = x := if_neg hbet
                  obtain ⟨sl2, he2, hF2⟩ := hRv
                  obtain ⟨rfl⟩ : slv = sl2 := by cases he2; rfl
                  have hRv : RW _ (.agg #[.string (str (qtxt x.1)), slv]) x := ⟨_, rfl, hF2⟩
                  obtain ⟨B5, d5, rfl, _, _⟩ := hF2.shape
                  (conv => whnf)
                  refine ⟨hS, ?_⟩
                  (conv => whnf)
                  refine ⟨?_, trivial⟩
                  obtain ⟨wz, hrz, hbz, hCz⟩ := store_blk (P := Tryz.prog) (vs := [.string (str (qtxt x.1)), .slice B5 x.2.length d5]) hbx rfl (by intro v hv; simp at hv; rcases hv with rfl | rfl <;> rfl)
                  refine ⟨rfl, wz, hrz, ?_⟩
                  refine ⟨⟨hCz.blk hS.1 (fun e => hne18 e), hS.2.trans hCz⟩, ?_⟩
                  (conv => whnf)
                  refine ⟨rfl, rfl, ?_⟩
                  rw [hbv]
                  exact ⟨_, hbz, hRv.stay hCz (not3 hbx (fun cur h => by cases h)), hS.2.trans hCz⟩
          rintro _ w11 ⟨rfl, sl11, hb11, hR11, hC11⟩
          (repeat ((conv => whnf); first | refine numP_i64 (by omega) ?_ | refine numP_u64 (by omega) ?_ | refine numP_u8 (by omega) ?_ | refine Exists.intro _ (And.intro ‹_› ?_) | refine Exists.intro _ (And.intro rfl ?_) | refine And.intro (by omega) (Exists.intro _ (And.intro rfl ?_)) | refine And.intro (by omega) ?_)); (conv => whnf)
          refine ⟨⟨rfl, rfl⟩, ⟨i + 1, sl11, rfl, by omega, ?_, ?_, (hC8.ext (hE810.trans (Chg.drew No _))).trans hC11⟩, by simp; omega⟩
          · rw [hcs]; exact hb11
          · rw [hcs]; exact hR11
      · obtain rfl : i = n + 1 := by omega
        (conv => whnf)
        exact ⟨⟨rfl, rfl⟩, slv, rfl, hbx, hRv, hC8⟩
    · obtain rfl : j = n := by omega
      (conv => whnf)
      exact ⟨⟨rfl, rfl⟩, rfl, hMn, hE45⟩
  · obtain rfl : i0 = cols.length := by omega
    rw [List.take_length] at hbl
    subst hbl
    (conv => whnf)
    exact ⟨⟨rfl, rfl⟩, bm, rfl, hM, hE34⟩
end Go.Proofs.YtfeegacmmfgjfaaGreatDoorX

/-!  Package tagger: Tag. -/
set_option linter.unusedVariables false
set_option maxRecDepth 10000
set_option maxHeartbeats 2000000
namespace Go.Proofs.YtfeegacmmfgjfaaGreatDoorX
open Go Go.RowKit Go.Proofs Go.Proofs.YtfeegacmmfgjfaaGreatDoorM
theorem SetB.blk0 {w w' : World} {b : Nat} {v : Value} {cs : Array Value} {t : TypeId} {fr : Nat × Nat} (h : SetB w ⟨b, 0, none⟩ v w') (hb : w.heap[b]? = some (.cells cs t fr)) : w'.heap[b]? = some (.cells (cs.setIfInBounds 0 v) t fr) := by
  rw [h.hw]; exact set_blk hb 0 v
/-- Tags of a model. -/
def VT (n : Nat) (x : V) : Prop := ∀ t ∈ x.2, 0 ≤ t ∧ t < (n : Int)
theorem VT.better {n : Nat} {a b : V} (ha : VT n a) (hb : VT n b) : VT n (betterV a b) := by
  unfold betterV; split; exact hb; exact ha
theorem VT.step {n : Nat} {x : V} {tag : Int} {p : Rat} (hx : VT n x) (ht : tag < n) : VT n (stepV x tag p) := by
  unfold stepV
  split
  · intro t h; cases h
  · intro t h
    have h : t ∈ (if 0 ≤ tag then x.2 ++ [tag] else x.2) := h
    split at h
    · rcases List.mem_append.1 h with h | h
      · exact hx t h
      · simp at h; subst h; omega
    · exact hx t h
theorem VT.cell {n : Nat} {f : Nat → V → V} {bl : List (Nat × V)} (hf : ∀ i u, getB bl i = some u → VT n (f i u)) (m : Nat) : VT n (cellB f bl m) := by
  induction m with
  | zero => intro t h; cases h
  | succ m ih =>
    rw [cellB_succ]
    split
    · rename_i u hu; exact ih.better (hf m u hu)
    · exact ih
theorem fwd_tags (rN rE : List (List Rat)) (n : Nat) (cols : List Nat) : VT n (fwd rN rE n cols) := by
  have hind : ∀ l : List Nat, ∀ i u, getB (l.foldl (fun bl c => nextB rN rE n bl c) [(n, (1, []))]) i = some u → VT n u := by
    intro l
    refine snoc_ind (p := fun l : List Nat => ∀ i u, getB (l.foldl (fun bl c => nextB rN rE n bl c) [(n, (1, []))]) i = some u → VT n u) ?_ ?_ l
    · intro i u hu
      simp only [List.foldl_nil, getB] at hu
      split at hu
      · cases hu; intro t h; cases h
      · cases hu
    · intro l c ih i u hu
      rw [List.foldl_append] at hu
      simp only [List.foldl_cons, List.foldl_nil] at hu
      obtain ⟨hi, rfl⟩ := getB_next hu
      exact VT.cell (fun i' u hu => (ih i' u hu).step (by omega)) (n + 1)
  exact VT.cell (fun i' u hu => (hind cols i' u hu).step (by omega)) (n + 1)
theorem fwd_VD {n wd : Nat} {rN rE : List (List Rat)} {cols : List Nat} (hD : FwD n wd rN rE cols) : VD 169 4 (fwd rN rE n cols) := by
  have hB : ∀ i u, getB (cols.foldl (fun bl c => nextB rN rE n bl c) [(n, (1, []))]) i = some u → VD 145 3 u ∧ i < n + 1 := fun i u hu => by
    have := fold_bd hD cols hD.c i u hu
    have hl := hD.lc
    exact ⟨this.1.mono (by omega) (by omega), this.2⟩
  exact VD.cell (by omega) (fun i' u hu => by
    obtain ⟨h5, h6⟩ := hB i' u hu
    exact (h5.step (hD.dn i' n h6 (by omega)) (by omega)).mono (by omega) (by omega)) (n + 1)
/-- What Tag answers. -/
def tagF (T W : List Str) (rN rE : List (List Rat)) (ws : List Str) : List Str × Str × Int :=
  if badArgs T W rN rE ws = true then ([], [], 1) else
    let v := fwd rN rE T.length (ws.map (idx W))
    if v.1 = 0 then ([], [], 4) else (v.2.map fun t => T.getD t.toNat [], qtxt v.1, 0)
theorem fwD_of {T W : List Str} {rN rE : List (List Rat)} {ws : List Str} (hb : badArgs T W rN rE ws = false) (hd : ModD T W rN rE 24) (hw : ws.length ≤ 3) : FwD T.length (W.length + 1) rN rE (ws.map (idx W)) := by
  unfold badArgs at hb
  rw [Bool.or_eq_false_iff] at hb
  have hv : vmB T W rN rE = true := by simpa using hb.1
  unfold vmB at hv
  simp only [Bool.and_eq_true, decide_eq_true_eq] at hv
  obtain ⟨h1, h2, h3, h4, h5, h6, h7⟩ := hv
  unfold rowsOk at h6 h7
  simp only [Bool.and_eq_true, decide_eq_true_eq, List.all_eq_true] at h6 h7
  have gN : ∀ i, i < T.length + 1 → ∃ r, r ∈ rN ∧ rN.getD i [] = r := fun i hi => ⟨_, List.getElem_mem (show i < rN.length by omega), by rw [List.getD_eq_getElem?_getD, List.getElem?_eq_getElem (show i < rN.length by omega)]; rfl⟩
  have gE : ∀ i, i < T.length → ∃ r, r ∈ rE ∧ rE.getD i [] = r := fun i hi => ⟨_, List.getElem_mem (show i < rE.length by omega), by rw [List.getD_eq_getElem?_getD, List.getElem?_eq_getElem (show i < rE.length by omega)]; rfl⟩
  refine ⟨by omega, h6.1, h7.1, fun i hi => ?_, fun i hi => ?_, fun i j hi hj => ?_, fun i j hi hj => ?_, by rw [List.length_map]; exact hw, fun c hc => ?_⟩
  · obtain ⟨r, hr, he⟩ := gN i hi
    rw [he]; exact (h6.2 r hr).1
  · obtain ⟨r, hr, he⟩ := gE i hi
    rw [he]; exact (h7.2 r hr).1
  · obtain ⟨r, hr, he⟩ := gN i hi
    have hl := (h6.2 r hr).1
    unfold pN
    rw [he, List.getD_eq_getElem?_getD, List.getElem?_eq_getElem (by omega)]
    exact hd.rn r hr _ (List.getElem_mem _)
  · obtain ⟨r, hr, he⟩ := gE i hi
    have hl := (h7.2 r hr).1
    unfold pN
    rw [he, List.getD_eq_getElem?_getD, List.getElem?_eq_getElem (by omega)]
    exact hd.re r hr _ (List.getElem_mem _)
  · obtain ⟨s, _, rfl⟩ := List.mem_map.1 hc
    have := idx_le W s
    omega
theorem tag (S S' : Nat → Prop) (w : World) (vT vW vN vE : Value) (T W : List Str) (rN rE : List (List Rat)) (A : Option Addr) (m c : Nat) (ws : List Str) (hL : Laid w) (hT : SlR kStr S w vT T) (hW : SlR kStr S w vW W) (hN : SlR (kSl kStr) S w vN (rN.map fun r => r.map qtxt)) (hE : SlR (kSl kStr) S w vE (rE.map fun r => r.map qtxt))
    (hd : ModD T W rN rE 24) (hTl : T.length ≤ 1000000) (hWl : W.length ≤ 1000000) (hws : SlR kStr S' w (.slice A m c) ws) (hwl : ∀ s ∈ ws, s.length ≤ 9223372036854775807) (hwn : ws.length ≤ 3) :
    Ret Tryz.prog 12 #[.agg #[vT, vW, vN, vE], .slice A m c] w fun r w' => ∃ v, r = .tuple #[v, .string (str (tagF T W rN rE ws).2.1), .int .i64 (tagF T W rN rE ws).2.2] ∧ Fresh kStr 9 w w' v (tagF T W rN rE ws).1 := by
  have hT := hT.old
  have hW := hW.old
  have hN := hN.old
  have hE := hE.old
  have hws := hws.old
  obtain ⟨rfl, hcw, hmw⟩ := hws.len
  obtain ⟨A1, c1, rfl, _, _⟩ := hT.shape
  obtain ⟨A2, c2, rfl, _, _⟩ := hW.shape
  obtain ⟨A3, c3, rfl, _, _⟩ := hN.shape
  obtain ⟨A4, c4, rfl, _, _⟩ := hE.shape
  refine fn_ret tok Tryz.func12 (by kernel_rfl) rfl rfl ?_
  (conv => whnf)
  intro b2 w1 hw1
  have hE1 : Ext w w1 := hw1.chg _
  have hb2 : w1.heap[b2]? = some (.cells #[.slice A1 T.length c1, .slice A2 W.length c2, .slice A3 (rN.map fun r => r.map qtxt).length c3, .slice A4 (rE.map fun r => r.map qtxt).length c4] 36 (0, 0)) := hw1.blk
  clear hw1
  (conv => whnf)
  refine ⟨_, rfl, cellsAt_blk hb2, ?_⟩
  (conv => whnf)
  refine (start (Old w) (Old w) w1 _ _ _ _ T W rN rE A c _ ws (hL.ext hE1) (hT.ext hE1) (hW.ext hE1) (hN.ext hE1) (hE.ext hE1) ⟨hd.t, hd.w, fun r hr q hq => (hd.rn r hr q hq).mono (by omega), fun r hr q hq => (hd.re r hr q hq).mono (by omega)⟩ hTl hWl (hws.ext hE1) hwl (by omega)).call ?_
  rintro _ w2 ⟨hE12, ⟨hbad, rfl⟩ | ⟨hgood, br, vC, rfl, hR, hFC⟩⟩
  · have hf : tagF T W rN rE ws = ([], [], 1) := if_pos hbad
    rw [hf]
    (conv => whnf)
    intro b7 w3 hw3
    (conv => whnf)
    refine ⟨rfl, trivial, ⟨_, by rw [cell_of_blk hw3.blk]; rfl, frozen_of_blk hw3.blk _⟩, fun w4 hw4 => ?_⟩
    have hC4 : Chg (fun b => b = b7) w3 w4 := hw4.chg _ rfl
    (conv => whnf)
    refine condP_not (condP_no (by omega) ?_)
    (conv => whnf)
    exact ⟨_, rfl, .nil _ _ (((hE1.trans hE12).trans (hw3.chg No)).then hC4 fun i hi e => by have := hw3.hb; have := (hE1.trans hE12).size; omega)⟩
  · have hF := fwD_of hgood hd hwn
    have hcols : (ws.map fun s => (idx W s : Int)) = (ws.map (idx W)).map (fun c : Nat => (c : Int)) := by rw [List.map_map]; rfl
    rw [hcols] at hFC
    have hf : tagF T W rN rE ws = (if (fwd rN rE T.length (ws.map (idx W))).1 = 0 then ([], [], 4) else ((fwd rN rE T.length (ws.map (idx W))).2.map fun t => T.getD t.toNat [], qtxt (fwd rN rE T.length (ws.map (idx W))).1, 0)) := if_neg (by rw [hgood]; decide)
    have hvt := fwd_tags rN rE T.length (ws.map (idx W))
    have hxl := (fwd_VD hF).l
    have hE2 := hE1.trans hE12
    have hb2 := hE12.blk hb2 (fun h => h)
    (conv => whnf)
    intro b7 w3 hw3
    (conv => whnf)
    refine ⟨rfl, trivial, ⟨_, by rw [cell_of_blk hw3.blk]; rfl, frozen_of_blk hw3.blk _⟩, fun w4 hw4 => ?_⟩
    have hb7 : w4.heap[b7]? = some (.cells #[.pointer (some ⟨br, 0, none⟩)] 75 (0, 0)) := hw4.blk0 hw3.blk
    have hE24 : Ext w2 w4 := (hw3.chg No).then (hw4.chg (fun b => b = b7) rfl) fun i hi e => by have := hw3.hb; omega
    have hE4 := hE2.trans hE24
    have hb2 := hE24.blk hb2 (fun h => h)
    clear hw3 hw4
    (conv => whnf)
    refine condP_not (condP_yes rfl ?_)
    (conv => whnf)
    refine ⟨_, by rw [cell_of_blk hb7]; rfl, ?_⟩
    rw [show ({ data := #[48] } : ByteArray) = str (qtxt 0) by rw [qtxt_zero_], show ({ data := #[49] } : ByteArray) = str (qtxt 1) by rw [qtxt_one_]]
    (conv => whnf)
    have hRR : RunAt w4 br _ _ _ _ _ := hE24.blk hR (fun h => h)
    refine (forward br b7 T.length (W.length + 1) A1 c1 _ _ _ vC rN rE (ws.map (idx W)) _ w4 (hL.ext hE4) hRR (hN.ext hE4).old (hE.ext hE4).old (hFC.up hE24).read hb7 hF).call ?_
    generalize fwd rN rE T.length (ws.map (idx W)) = x at *
    rintro r w5 ⟨⟨sl, rfl, hFx⟩, hE45⟩
    obtain ⟨Ax, cx, rfl, _, _⟩ := hFx.shape
    have hE5 := hE4.trans hE45
    (conv => whnf)
    intro b9 w6 hw6
    obtain ⟨w7, hr7, hb9, hC7⟩ := store_blk (P := Tryz.prog) (vs := [.string (str (qtxt x.1)), .slice Ax x.2.length cx]) hw6.blk rfl (by intro v hv; simp at hv; rcases hv with rfl | rfl <;> rfl)
    (conv => whnf)
    refine ⟨rfl, w7, hr7, ?_⟩
    have hE57 : Ext w5 w7 := (hw6.chg No).then hC7 fun i hi e => by have := hw6.hb; omega
    have hE47 := hE45.trans hE57
    have hE7 := hE5.trans hE57
    have hb7 := hE47.blk hb7 (fun h => h)
    have hR7 := hE47.blk hRR (fun h => h)
    have hb2 := hE47.blk hb2 (fun h => h)
    have hX : SlR (kInt .i64) (Old w7) w7 (.slice Ax x.2.length cx) x.2 := (hFx.read.ext hE57).old
    clear hw6 hr7 hC7
    (conv => whnf)
    refine ⟨_, by rw [cell_of_blk hb7]; rfl, ?_⟩
    (conv => whnf)
    refine ⟨_, by rw [addr_add, cell_of_blk hR7]; rfl, ?_⟩
    (conv => whnf)
    refine condP_not (condP_yes rfl ?_)
    (conv => whnf)
    refine ⟨_, by rw [addr_add, cell_of_blk hb9]; rfl, ?_⟩
    (conv => whnf)
    rw [hf]
    refine condP_str (b := qtxt 0) (fun h0 => ?_) (fun h0 => ?_)
    · have hz : x.1 = 0 := qtxt_inj h0
      rw [if_pos hz]
      (conv => whnf)
      exact ⟨_, rfl, .nil _ _ hE7⟩
    have hz : x.1 ≠ 0 := fun e => h0 (by rw [e])
    rw [if_neg hz]
    (conv => whnf)
    refine ⟨_, by rw [addr_add, cell_of_blk hb9]; rfl, ?_⟩
    (conv => whnf)
    refine loop_box tok 1 [4, 44] [2, 9, 42, 43] [4] (fun vs w' => ∃ (i : Nat) (v : Value), vs = [v, .int .i64 i] ∧ i ≤ x.2.length ∧ Fresh kStr 9 w7 w' v ((x.2.take i).map fun t => T.getD t.toNat [])) (fun vs w => match vs with | [_, .int _ i] => x.2.length - i.toNat | _ => 0)
      (fun vs w' => ∃ v : Value, vs = [v] ∧ Fresh kStr 9 w7 w' v (x.2.map fun t => T.getD t.toNat [])) ?_
    (conv => whnf)
    refine ⟨⟨0, _, rfl, Nat.zero_le _, .nil _ _ (.refl _ _)⟩, ?_, ?_⟩
    · rintro _ w8 ⟨i, v, rfl, hi, hFv⟩
      (conv => whnf)
      refine condP_dec (fun h1 => ?_) (fun h1 => ?_)
      · obtain ⟨t, ht⟩ : ∃ t, x.2[i]? = some t := ⟨_, List.getElem?_eq_getElem (by omega)⟩
        have htm := List.mem_of_getElem? ht
        obtain ⟨t0, t1⟩ := hvt t htm
        obtain ⟨ad, rfl, hcell⟩ := (hX.ext hFv.ext).i (i : Int) (by omega) (by omega)
        have hgt : x.2.getD (i : Int).toNat 0 = t := by rw [Int.toNat_natCast, List.getD_eq_getElem?_getD, ht]; rfl
        rw [hgt] at hcell
        obtain ⟨s, hs⟩ : ∃ s, T[t.toNat]? = some s := ⟨_, List.getElem?_eq_getElem (by omega)⟩
        have hgs : T.getD t.toNat [] = s := by rw [List.getD_eq_getElem?_getD, hs]; rfl
        obtain ⟨aT, rfl⟩ := hT.some_ (by omega)
        have hcT : w8.cell? (aT.add (t.toNat * 1)) = some (.string (str s)) := (hT.ext (hE7.trans hFv.ext)).strg hs
        have hb28 := hFv.ext.blk hb2 (fun h => h)
        have htk : ((x.2.take (i + 1)).map fun t => T.getD t.toNat []) = ((x.2.take i).map fun t => T.getD t.toNat []) ++ [s] := by
          rw [List.take_add_one, ht]; simp [← hgs]
        have hlx := (hFx.shape)
        have hlen := hX.len
        have hlt := List.length_take_le i x.2
        (repeat ((conv => whnf); first | refine numP_i64 (by omega) ?_ | refine numP_u64 (by omega) ?_ | refine numP_u8 (by omega) ?_ | refine Exists.intro _ (And.intro ‹_› ?_) | refine Exists.intro _ (And.intro rfl ?_) | refine And.intro (by omega) (Exists.intro _ (And.intro rfl ?_)) | refine And.intro (by omega) ?_)); (conv => whnf)
        refine ⟨_, by rw [addr_add, cell_of_blk hb28]; rfl, ?_⟩
        (repeat ((conv => whnf); first | refine numP_i64 (by omega) ?_ | refine numP_u64 (by omega) ?_ | refine numP_u8 (by omega) ?_ | refine Exists.intro _ (And.intro ‹_› ?_) | refine Exists.intro _ (And.intro rfl ?_) | refine And.intro (by omega) (Exists.intro _ (And.intro rfl ?_)) | refine And.intro (by omega) ?_)); (conv => whnf)
        intro bA w9 hwA
        (conv => whnf)
        refine kStr_flat.app (x := s) tok rfl rfl rfl rfl rfl hwA hFv rfl (by rw [List.length_map]; omega) (by rw [List.length_map]; omega) (fun v' w10 hF10 hC10 ho10 => ?_)
        (repeat ((conv => whnf); first | refine numP_i64 (by omega) ?_ | refine numP_u64 (by omega) ?_ | refine numP_u8 (by omega) ?_ | refine Exists.intro _ (And.intro ‹_› ?_) | refine Exists.intro _ (And.intro rfl ?_) | refine And.intro (by omega) (Exists.intro _ (And.intro rfl ?_)) | refine And.intro (by omega) ?_)); (conv => whnf)
        refine ⟨⟨rfl, rfl⟩, ⟨i + 1, v', rfl, by omega, ?_⟩, by simp; omega⟩
        rw [htk]; exact hF10
      · obtain rfl : i = x.2.length := by omega
        rw [List.take_length] at hFv
        (conv => whnf)
        exact ⟨⟨rfl, rfl⟩, v, rfl, hFv⟩
    · rintro _ w8 ⟨v, rfl, hFv⟩
      have hb98 := hFv.ext.blk hb9 (fun h => h)
      have hS : w8.drew.heap[b9]? = _ := hb98
      (conv => whnf)
      refine draw_held tok mixed (fun w' => w'.heap[b9]? = some (.cells #[.string (str (qtxt x.1)), .slice Ax x.2.length cx] 80 (0, 0))) (ones [0, 1, 2, 3, 4, 5] .done) (by decide +kernel) (by decide +kernel) hS ?_
      (conv => whnf)
      refine ⟨_, fun w' h => (by rw [addr_add, cell_of_blk h]; rfl), ?_⟩
      (conv => whnf)
      exact ⟨v, rfl, (hFv.up (Chg.drew No _)).back hE7⟩
end Go.Proofs.YtfeegacmmfgjfaaGreatDoorX

/-!  Package top: comparing what is equal. -/
set_option linter.unusedVariables false
set_option maxRecDepth 10000
namespace Go.Proofs.YtfeegacmmfgjfaaGreatDoorX
open Go Go.RowKit Go.Proofs Go.Proofs.YtfeegacmmfgjfaaGreatDoorM
theorem sem_neqC {x y : Operand} {E : Env} {K' : Value → World → Prop} {w : World} {a : Cnt} {ty yt : TypeId} (hx : ev E x = some (.agg (eCnt a).toArray)) (hy : ev E y = some (.agg (eCnt a).toArray)) (hK : K' (.bool false) w) : SemOp Tryz.prog (.binOp .neq 60 x y yt) ty E w K' := by
  refine .of fun ρ o hρ hop hty => ⟨_, w, ?_, hK⟩
  have h0 := run_eqGuard_agg (P := Tryz.prog) w .neq 60 x y (eCnt a).toArray (eCnt a).toArray (by kernel_rfl)
  have p9 := ti9.run_isAgg w
  have p3 := ti3.run_isAgg w
  have q9 : TD.agg TD.str = false := rfl
  have q3 : TD.agg (TD.int .i64) = false := rfl
  rw [q9] at p9
  rw [q3] at p3
  have h1 : (Op.equalIn 10000 60 (.agg (eCnt a).toArray) (.agg (eCnt a).toArray)).run Tryz.prog w = .ok true w := by
    have h := run_equalIn_struct (P := Tryz.prog) w 9999 60 (eCnt a).toArray (eCnt a).toArray (by rw [Program.fieldsOf, Tryz.underlying60]) (by kernel_rfl)
    refine h.trans ?_
    rw [Program.fieldsOf, Tryz.underlying60]
    have hs := run_equalIn_string (P := Tryz.prog) w 9998 9 (str a.1) (str a.1) Tryz.underlying9
    have hs2 := run_equalIn_string (P := Tryz.prog) w 9998 9 (str a.2.1) (str a.2.1) Tryz.underlying9
    have hi := run_equalIn_int (P := Tryz.prog) w 9998 3 .i64 .i64 a.2.2 a.2.2 Tryz.underlying3
    simp [Op.eqFields, part, p9, eCnt, hs, hs2, hi, Sem.run_ite]
  have h2 := run_neq_struct (P := Tryz.prog) w 60 (eCnt a).toArray (eCnt a).toArray
  rw [h1] at h2
  unfold execOp
  rw [hop]
  simp only [Sem.run_bind, hρ _ _ hx, hρ _ _ hy, h0, h2, Result.andThen_ok, Sem.run_pure]
  rfl
theorem counted (S S' : Nat → Prop) (A A' : Option Addr) (n c n' c' : Nat) (xs : List Cnt) (w : World) (h : SlR kCnt S w (.slice A n c) xs) (h' : SlR kCnt S' w (.slice A' n' c') xs) : Ret Tryz.prog 7 #[.slice A n c, .slice A' n' c'] w fun v w' => v = .bool true ∧ Ext w w' := by
  obtain ⟨rfl, hc, hm⟩ := h.len
  obtain ⟨rfl, hc', hm'⟩ := h'.len
  refine fn_ret tok Tryz.func7 (by kernel_rfl) rfl rfl ?_
  (conv => whnf)
  refine condP_not (condP_yes rfl ?_)
  (conv => whnf)
  refine loop_rule tok [5] [0, 1] (fun vs w' => ∃ i : Nat, vs = [.int .i64 i] ∧ i ≤ xs.length ∧ Ext w w') (fun vs w => match vs with | [.int _ i] => xs.length - i.toNat | _ => 0) ?_
  (conv => whnf)
  refine ⟨⟨0, rfl, Nat.zero_le _, .refl _ _⟩, ?_⟩
  rintro _ w1 ⟨i, rfl, hi, hE⟩
  (conv => whnf)
  refine condP_dec (fun h1 => ?_) (fun h1 => ?_)
  · obtain ⟨ad, rfl⟩ := h.some_ (by omega)
    obtain ⟨ad', rfl⟩ := h'.some_ (by omega)
    obtain ⟨x, hx⟩ : ∃ x, xs[i]? = some x := ⟨_, List.getElem?_eq_getElem (by omega)⟩
    (conv => whnf)
    refine draw_held tok mixed (fun w' => Ext w w') (ones [0, 1, 2, 3, 4, 5, 6, 7] (.alt 8 .done .nil)) (by decide +kernel) (by decide +kernel) (hE.trans (Chg.drew _ _)) ?_
    (repeat ((conv => whnf); first | refine numP_i64 (by omega) ?_ | refine numP_u64 (by omega) ?_ | refine numP_u8 (by omega) ?_ | refine Exists.intro _ (And.intro ‹_› ?_) | refine Exists.intro _ (And.intro rfl ?_) | refine And.intro (by omega) (Exists.intro _ (And.intro rfl ?_)) | refine And.intro (by omega) ?_)); (conv => whnf)
    refine ⟨_, rfl, fun w' hw' => by rw [Int.toNat_natCast]; exact (h.ext hw').cnt hx, ?_⟩
    (repeat ((conv => whnf); first | refine numP_i64 (by omega) ?_ | refine numP_u64 (by omega) ?_ | refine numP_u8 (by omega) ?_ | refine Exists.intro _ (And.intro ‹_› ?_) | refine Exists.intro _ (And.intro rfl ?_) | refine And.intro (by omega) (Exists.intro _ (And.intro rfl ?_)) | refine And.intro (by omega) ?_)); (conv => whnf)
    refine ⟨_, rfl, fun w' hw' => by rw [Int.toNat_natCast]; exact (h'.ext hw').cnt hx, ?_⟩
    (conv => whnf)
    refine ⟨?_, trivial⟩
    refine sem_neqC (a := x) rfl rfl ?_
    (conv => whnf)
    refine ⟨hE.trans (Chg.drew _ _), ?_⟩
    (repeat ((conv => whnf); first | refine numP_i64 (by omega) ?_ | refine numP_u64 (by omega) ?_ | refine numP_u8 (by omega) ?_ | refine Exists.intro _ (And.intro ‹_› ?_) | refine Exists.intro _ (And.intro rfl ?_) | refine And.intro (by omega) (Exists.intro _ (And.intro rfl ?_)) | refine And.intro (by omega) ?_)); (conv => whnf)
    exact ⟨⟨rfl, rfl⟩, ⟨i + 1, rfl, by omega, hE.trans (Chg.drew _ _)⟩, by simp; omega⟩
  · (conv => whnf)
    exact ⟨rfl, hE⟩
theorem sameNames (S S' : Nat → Prop) (A A' : Option Addr) (n c n' c' : Nat) (xs : List Str) (w : World) (h : SlR kStr S w (.slice A n c) xs) (h' : SlR kStr S' w (.slice A' n' c') xs) : Ret Tryz.prog 10 #[.slice A n c, .slice A' n' c'] w fun v w' => v = .bool true ∧ Ext w w' := by
  obtain ⟨rfl, hc, hm⟩ := h.len
  obtain ⟨rfl, hc', hm'⟩ := h'.len
  refine fn_ret tok Tryz.func10 (by kernel_rfl) rfl rfl ?_
  (conv => whnf)
  refine condP_not (condP_yes rfl ?_)
  (conv => whnf)
  refine loop_rule tok [5] [0, 1] (fun vs w' => ∃ i : Nat, vs = [.int .i64 i] ∧ i ≤ xs.length ∧ Ext w w') (fun vs w => match vs with | [.int _ i] => xs.length - i.toNat | _ => 0) ?_
  (conv => whnf)
  refine ⟨⟨0, rfl, Nat.zero_le _, .refl _ _⟩, ?_⟩
  rintro _ w1 ⟨i, rfl, hi, hE⟩
  (conv => whnf)
  refine condP_dec (fun h1 => ?_) (fun h1 => ?_)
  · obtain ⟨ad, rfl⟩ := h.some_ (by omega)
    obtain ⟨ad', rfl⟩ := h'.some_ (by omega)
    obtain ⟨x, hx⟩ : ∃ x, xs[i]? = some x := ⟨_, List.getElem?_eq_getElem (by omega)⟩
    (conv => whnf)
    refine draw_held tok mixed (fun w' => Ext w w') (ones [0, 1, 2, 3, 4, 5, 6, 7, 8] .done) (by decide +kernel) (by decide +kernel) (hE.trans (Chg.drew _ _)) ?_
    (repeat ((conv => whnf); first | refine numP_i64 (by omega) ?_ | refine numP_u64 (by omega) ?_ | refine numP_u8 (by omega) ?_ | refine Exists.intro _ (And.intro ‹_› ?_) | refine Exists.intro _ (And.intro rfl ?_) | refine And.intro (by omega) (Exists.intro _ (And.intro rfl ?_)) | refine And.intro (by omega) ?_)); (conv => whnf)
    refine ⟨_, fun w' hw' => by rw [Int.toNat_natCast]; exact (h.ext hw').strg hx, ?_⟩
    (repeat ((conv => whnf); first | refine numP_i64 (by omega) ?_ | refine numP_u64 (by omega) ?_ | refine numP_u8 (by omega) ?_ | refine Exists.intro _ (And.intro ‹_› ?_) | refine Exists.intro _ (And.intro rfl ?_) | refine And.intro (by omega) (Exists.intro _ (And.intro rfl ?_)) | refine And.intro (by omega) ?_)); (conv => whnf)
    refine ⟨_, fun w' hw' => by rw [Int.toNat_natCast]; exact (h'.ext hw').strg hx, ?_⟩
    (conv => whnf)
    refine condP_not (condP_str (fun _ => ?_) (fun h => absurd rfl h))
    (repeat ((conv => whnf); first | refine numP_i64 (by omega) ?_ | refine numP_u64 (by omega) ?_ | refine numP_u8 (by omega) ?_ | refine Exists.intro _ (And.intro ‹_› ?_) | refine Exists.intro _ (And.intro rfl ?_) | refine And.intro (by omega) (Exists.intro _ (And.intro rfl ?_)) | refine And.intro (by omega) ?_)); (conv => whnf)
    exact ⟨⟨rfl, rfl⟩, ⟨i + 1, rfl, by omega, hE.trans (Chg.drew _ _)⟩, by simp; omega⟩
  · (conv => whnf)
    exact ⟨rfl, hE⟩
theorem sameRows (S S' : Nat → Prop) (A A' : Option Addr) (n c n' c' : Nat) (xs : List (List Str)) (w : World) (h : SlR (kSl kStr) S w (.slice A n c) xs) (h' : SlR (kSl kStr) S' w (.slice A' n' c') xs) : Ret Tryz.prog 11 #[.slice A n c, .slice A' n' c'] w fun v w' => v = .bool true ∧ Ext w w' := by
  obtain ⟨rfl, hc, hm⟩ := h.len
  obtain ⟨rfl, hc', hm'⟩ := h'.len
  refine fn_ret tok Tryz.func11 (by kernel_rfl) rfl rfl ?_
  (conv => whnf)
  refine condP_not (condP_yes rfl ?_)
  (conv => whnf)
  refine loop_rule tok [5] [0, 1] (fun vs w' => ∃ i : Nat, vs = [.int .i64 i] ∧ i ≤ xs.length ∧ Ext w w') (fun vs w => match vs with | [.int _ i] => xs.length - i.toNat | _ => 0) ?_
  (conv => whnf)
  refine ⟨⟨0, rfl, Nat.zero_le _, .refl _ _⟩, ?_⟩
  rintro _ w1 ⟨i, rfl, hi, hE⟩
  (conv => whnf)
  refine condP_dec (fun h1 => ?_) (fun h1 => ?_)
  · obtain ⟨x, hx⟩ : ∃ x, xs[i]? = some x := ⟨_, List.getElem?_eq_getElem (by omega)⟩
    obtain ⟨ad, _, rfl, hS1, ⟨sv, rfl, hsv⟩, hca⟩ := h.old.get hx
    obtain ⟨ad', _, rfl, hS2, ⟨sv', rfl, hsv'⟩, hca'⟩ := h'.old.get hx
    obtain ⟨A2, c2, rfl, _, _⟩ := hsv.shape
    obtain ⟨A3, c3, rfl, _, _⟩ := hsv'.shape
    have hc1 := cellsAt_zero hca (u := .slice A2 x.length c2) rfl
    have hc2 := cellsAt_zero hca' (u := .slice A3 x.length c3) rfl
    (conv => whnf)
    refine draw_held tok mixed (fun w' => Ext w w') (ones [0, 1, 2, 3, 4, 5, 6, 7] (.alt 8 (ones [9] .done) .nil)) (by decide +kernel) (by decide +kernel) (hE.trans (Chg.drew _ _)) ?_
    (repeat ((conv => whnf); first | refine numP_i64 (by omega) ?_ | refine numP_u64 (by omega) ?_ | refine numP_u8 (by omega) ?_ | refine Exists.intro _ (And.intro ‹_› ?_) | refine Exists.intro _ (And.intro rfl ?_) | refine And.intro (by omega) (Exists.intro _ (And.intro rfl ?_)) | refine And.intro (by omega) ?_)); (conv => whnf)
    refine ⟨_, fun w' hw' => by rw [Int.toNat_natCast]; exact hw'.cell hc1 (fun h => h), ?_⟩
    (repeat ((conv => whnf); first | refine numP_i64 (by omega) ?_ | refine numP_u64 (by omega) ?_ | refine numP_u8 (by omega) ?_ | refine Exists.intro _ (And.intro ‹_› ?_) | refine Exists.intro _ (And.intro rfl ?_) | refine And.intro (by omega) (Exists.intro _ (And.intro rfl ?_)) | refine And.intro (by omega) ?_)); (conv => whnf)
    refine ⟨_, fun w' hw' => by rw [Int.toNat_natCast]; exact hw'.cell hc2 (fun h => h), ?_⟩
    (conv => whnf)
    refine ⟨?_, trivial⟩
    have hE1 : Ext w w1.drew := hE.trans (Chg.drew _ _)
    refine (sameNames _ _ A2 A3 _ c2 _ c3 x _ (hsv.ext hE1) (hsv'.ext hE1)).call ?_
    rintro _ w2 ⟨rfl, hE2⟩
    (conv => whnf)
    refine ⟨hE1.trans hE2, ?_⟩
    (repeat ((conv => whnf); first | refine numP_i64 (by omega) ?_ | refine numP_u64 (by omega) ?_ | refine numP_u8 (by omega) ?_ | refine Exists.intro _ (And.intro ‹_› ?_) | refine Exists.intro _ (And.intro rfl ?_) | refine And.intro (by omega) (Exists.intro _ (And.intro rfl ?_)) | refine And.intro (by omega) ?_)); (conv => whnf)
    exact ⟨⟨rfl, rfl⟩, ⟨i + 1, rfl, by omega, hE1.trans hE2⟩, by simp; omega⟩
  · (conv => whnf)
    exact ⟨rfl, hE⟩
end Go.Proofs.YtfeegacmmfgjfaaGreatDoorX

/-!  Package top: the sentences of chapter 35. -/
set_option linter.unusedVariables false
set_option maxRecDepth 10000
namespace Go.Proofs.YtfeegacmmfgjfaaGreatDoorX
open Go Go.RowKit Go.Proofs Go.Proofs.YtfeegacmmfgjfaaGreatDoorM
def tD : Tok := ([116, 104, 101], [68])
def tN : Tok := ([100, 111, 103], [78])
def sen : List (List Tok) := [[tD, tN], [tN]]
theorem eToks {xs : List Tok} {S : Nat → Prop} {w : World} (j : Nat) (x : Tok) (cs : List Value) (h : xs[j]? = some x) (hc : (xs.map eTok)[j]? = some cs) : kTok.rep S w x cs := by
  rw [List.getElem?_map, h] at hc
  simp at hc
  exact (kTok_flat.rep S w x cs).2 hc.symm
theorem sentences (w : World) : Ret Tryz.prog 13 #[] w fun v w' => Fresh (kSl kTok) 25 w w' v sen := by
  refine fn_ret tok Tryz.func13 (by kernel_rfl) rfl rfl ?_
  (conv => whnf)
  intro b1 w1 (hw1 : NewB w (.cells (List.flatten [eTok tD, eTok tN]).toArray 51) b1 w1)
  (conv => whnf)
  intro b2 w2 (hw2 : NewB w1 (.cells (List.flatten [eTok tN]).toArray 51) b2 w2)
  (conv => whnf)
  intro b3 w3 (hw3 : NewB w2 (.cells (List.flatten [[.slice (some ⟨b1, 0, none⟩) 2 2], [.slice (some ⟨b2, 0, none⟩) 1 1]]).toArray 25) b3 w3)
  (conv => whnf)
  have o1 := Own.lit kTok 51 (S := No) (xs := [tD, tN]) _ rfl hw1 (fun j x cs h1 h2 => eToks (xs := [tD, tN]) j x cs h1 h2) (by simp)
  have o2 := Own.lit kTok 51 (S := No) (xs := [tN]) _ rfl hw2 (fun j x cs h1 h2 => eToks (xs := [tN]) j x cs h1 h2) (by simp)
  have hn1 := hw1.hb
  have hn2 := hw2.hb
  have hn3 := hw3.hb
  have hs1 := hw1.size
  have hs2 := hw2.size
  have r1 : SlR kTok (New w) w2 _ [tD, tN] := (o1.read.mono (S' := New w) fun b hb _ => by
    rcases hb with hb | rfl
    · exact hb.1.elim
    · exact Nat.le_of_eq hn1.symm).ext (hw2.chg No)
  have r2 : SlR kTok (New w) w2 _ [tN] := o2.read.mono (S' := New w) fun b hb _ => by
    rcases hb with hb | rfl
    · exact hb.1.elim
    · show w.heap.size ≤ b; omega
  have o3 := Own.lit (kSl kTok) 25 (S := New w) (xs := sen) _ rfl hw3 (fun j x cs h1 h2 => by
    rcases j with _ | _ | j
    · simp [sen] at h1 h2; subst h1; subst h2; exact ⟨_, rfl, r1⟩
    · simp [sen] at h1 h2; subst h1; subst h2; exact ⟨_, rfl, r2⟩
    · simp [sen] at h1) (by simp [sen])
  exact ⟨⟨_, o3, fun b hb => by
    rcases hb with hb | rfl
    · exact hb.1
    · omega⟩, ((hw1.chg No).trans (hw2.chg No)).trans (hw3.chg No)⟩
end Go.Proofs.YtfeegacmmfgjfaaGreatDoorX

/-!  What is counted of a few sentences; the model of doubled counts. -/
set_option linter.unusedVariables false
set_option maxRecDepth 10000
namespace Go.Proofs.YtfeegacmmfgjfaaGreatDoorX
open Go Go.RowKit Go.Proofs Go.Proofs.YtfeegacmmfgjfaaGreatDoorM
theorem mem_cpt {zs : List Str} {x : Str} (h : x ∈ Lib.compact zs) : x ∈ zs := by
  unfold Lib.compact Lib.compactUpTo at h
  obtain ⟨i, hi, rfl⟩ := List.mem_map.1 h
  have hlt : i < zs.length := List.mem_range.1 (List.mem_filter.1 hi).1
  simp [getElem!_pos, hlt]
theorem mem_nms {xs : List Str} {x : Str} (h : x ∈ nms xs) : x ∈ xs ∧ x ≠ [] := by
  have h1 := mem_cpt h
  rw [List.mem_mergeSort, List.mem_filter] at h1
  exact ⟨h1.1, by simpa using h1.2⟩
theorem wsum_nn {cs : List Cnt} (h : ∀ c ∈ cs, 0 ≤ c.2.2) (k : K) : 0 ≤ wsum cs k := by
  induction cs with
  | nil => exact Int.le_refl _
  | cons d s ih =>
    have := ih fun e he => h e (by simp [he])
    have := h d (by simp)
    simp only [wsum]; split <;> omega
theorem wsum_pos {cs : List Cnt} (h : ∀ c ∈ cs, 1 ≤ c.2.2) {k : K} (hk : k ∈ cs.map key) : 1 ≤ wsum cs k := by
  induction cs with
  | nil => simp at hk
  | cons c r ih =>
    have h0 : 0 ≤ wsum r k := wsum_nn (fun d hd => by have := h d (by simp [hd]); omega) k
    have hc := h c (by simp)
    rw [List.map_cons, List.mem_cons] at hk
    simp only [wsum]
    rcases hk with rfl | hk
    · rw [if_pos rfl]; omega
    · have := ih (fun d hd => h d (by simp [hd])) hk
      split <;> omega
theorem isW_len_le {cs ys : List Cnt} (h : IsW cs ys) : ys.length ≤ cs.length := by
  have := List.Nodup.length_le_of_subset h.nodup (l₂ := cs.map key) fun k hk => by
    obtain ⟨c, hc, rfl⟩ := List.mem_map.1 hk
    exact ((h.mem c).1 hc).1
  simpa using this
theorem isW_n_le {ks : List K} {ys : List Cnt} (h : IsW (ks.map cnt1) ys) (x : Cnt) (hx : x ∈ ys) : 1 ≤ x.2.2 ∧ x.2.2 ≤ ks.length := by
  obtain ⟨h1, h2⟩ := (h.mem x).1 hx
  rw [h2]
  refine ⟨wsum_pos (fun c hc => ?_) h1, ?_⟩
  · obtain ⟨k, _, rfl⟩ := List.mem_map.1 hc; exact Int.le_refl 1
  · have := (wsum_le (M := 1) (cs := ks.map cnt1) cnt1_le (key x)).2
    simpa using this
theorem isW_key_mem {ks : List K} {ys : List Cnt} (h : IsW (ks.map cnt1) ys) (x : Cnt) (hx : x ∈ ys) : (x.1, x.2.1) ∈ ks := by
  obtain ⟨h1, _⟩ := (h.mem x).1 hx
  rw [List.map_map] at h1
  obtain ⟨k, hk, he⟩ := List.mem_map.1 h1
  have : k = (x.1, x.2.1) := he
  rw [← this]; exact hk
theorem nxs_nm {s : List Tok} (hs : ∀ t ∈ s, tokOk t = true) : ∀ last : Str, (last = [] ∨ isNm last = true) → (∀ k ∈ nxs last s, (k.1 = [] ∨ isNm k.1 = true) ∧ (k.2 = [] ∨ isNm k.2 = true)) ∧ (lst last s = [] ∨ isNm (lst last s) = true) := by
  induction s with
  | nil => intro last h; exact ⟨by simp [nxs], h⟩
  | cons t r ih =>
    intro last h
    have ht : isNm t.1 = true ∧ isNm t.2 = true := by have := hs t (by simp); unfold tokOk at this; simpa using this
    obtain ⟨h1, h2⟩ := ih (fun u hu => hs u (by simp [hu])) t.2 (.inr ht.2)
    refine ⟨fun k hk => ?_, h2⟩
    simp only [nxs, List.mem_cons] at hk
    rcases hk with rfl | hk
    · exact ⟨h, .inr ht.2⟩
    · exact h1 k hk
theorem small_of {l : List (List Tok)} {y1 y2 : List Cnt} (hok : allOk l = true) (hl : l.length ≤ 8) (hl4 : ∀ s ∈ l, s.length ≤ 4) (h1 : IsW (csN l) y1) (h2 : IsW (csE l) y2) : Small y1 y2 := by
  have hc1 := csN_len l hl4
  have hc2 := csE_len l hl4
  have hlen1 := isW_len_le h1
  have hlen2 := isW_len_le h2
  unfold csN at h1 hc1 hlen1
  unfold csE at h2 hc2 hlen2
  rw [List.length_map] at hc1 hc2 hlen1 hlen2
  have hok' : ∀ s ∈ l, ∀ t ∈ s, tokOk t = true := by
    unfold allOk at hok
    simpa [List.all_eq_true] using hok
  refine ⟨by omega, by omega, h1.lt, h2.lt, fun x hx => ?_, fun x hx => ?_, fun x hx => ?_, fun x hx => ?_⟩
  · have := isW_n_le h1 x hx; omega
  · have := isW_n_le h2 x hx; omega
  · have := isW_key_mem h1 x hx
    obtain ⟨s, hs, hk⟩ := List.mem_flatMap.1 this
    obtain ⟨h3, h4⟩ := nxs_nm (hok' s hs) [] (.inl rfl)
    unfold nx at hk
    rcases List.mem_append.1 hk with hk | hk
    · exact h3 _ hk
    · simp at hk
      rw [hk.1, hk.2]
      exact ⟨h4, .inl rfl⟩
  · have := isW_key_mem h2 x hx
    obtain ⟨s, hs, hk⟩ := List.mem_flatMap.1 this
    unfold em at hk
    obtain ⟨t, ht, he⟩ := List.mem_map.1 hk
    have h3 := hok' s hs t ht
    unfold tokOk at h3
    simp only [Bool.and_eq_true] at h3
    rw [Prod.mk.injEq] at he
    rw [← he.1, ← he.2]
    exact ⟨h3.2, h3.1⟩
/-- The model's numbers. -/
def rNq (y1 y2 : List Cnt) (q : Rat) : List (List Rat) := (tagsM y1 y2 ++ [[]]).map fun t => rowR (tabN y1) (tabS y1) t (tagsM y1 y2 ++ [[]]) q
def rEq (y1 y2 : List Cnt) (q : Rat) : List (List Rat) := (tagsM y1 y2).map fun t => rowR (tabN y2) (tabS y2) t (wordsM y2 ++ [[]]) q
theorem nextM_eq (y1 y2 : List Cnt) (q : Rat) : nextM y1 y2 q = (rNq y1 y2 q).map fun r => r.map qtxt := by unfold nextM rNq; rw [List.map_map]; rfl
theorem emitM_eq (y1 y2 : List Cnt) (q : Rat) : emitM y1 y2 q = (rEq y1 y2 q).map fun r => r.map qtxt := by unfold emitM rEq; rw [List.map_map]; rfl
theorem cellR_dg {ys : List Cnt} (hl : ys.length ≤ 100) (hn : ∀ x ∈ ys, 1 ≤ x.2.2 ∧ x.2.2 ≤ 100) {q : Rat} (hq : Dg 4 q) {L : List Str} (hL : L.length ≤ 600) (a b : Str) : Dg 24 (cellR (tabN ys) (tabS ys) a L q b) := by
  have hs := tabS_le (M := 100) (by decide) ys (fun c hc => by have := hn c hc; omega) a
  have ht := tabN_le (M := 100) (by decide) ys (fun c hc => by have := hn c hc; omega) (a, b)
  have d1 : Dg 3 (((L.length : Int) : Rat)) := dg_int (by omega) (by omega) (by omega)
  have d2 : Dg 7 (((getI (tabS ys) a : Int) : Rat)) := dg_int hs.1 (by omega) (by omega)
  have d4 : Dg 15 (allQ (tabS ys) a L q) := (hq.mul d1).add d2
  have d5 : Dg 4 (((getI (tabN ys) (a, b) : Int) : Rat)) := dg_int ht.1 (by omega) (by omega)
  unfold cellR
  split
  · exact dg_zero (by omega)
  · rename_i h0
    exact (d5.add hq).div d4 (fun h => h0 (Rat.num_eq_zero.1 h))
theorem modD_of {y1 y2 : List Cnt} (h : Small y1 y2) {q : Rat} (hq : Dg 4 q) (hT : (tagsM y1 y2).length ≤ 40) (hW : (wordsM y2).length ≤ 500) : ModD (tagsM y1 y2) (wordsM y2) (rNq y1 y2 q) (rEq y1 y2 q) 24 := by
  have hnm : ∀ s : Str, (s = [] ∨ isNm s = true) → s.length ≤ 9223372036854775807 := fun s hs => by
    rcases hs with rfl | hs
    · simp
    · unfold isNm at hs; simp at hs; omega
  refine ⟨fun s hs => ?_, fun s hs => ?_, fun r hr q' hq' => ?_, fun r hr q' hq' => ?_⟩
  · refine hnm s ?_
    have := (mem_nms hs).1
    unfold tagsIn tagN at this
    rcases List.mem_append.1 this with h1 | h1
    · obtain ⟨c, hc, h2⟩ := List.mem_flatMap.1 h1
      have h3 := h.p1 c hc
      simp at h2
      rcases h2 with rfl | rfl
      · exact h3.1
      · exact h3.2
    · obtain ⟨c, hc, rfl⟩ := List.mem_map.1 h1
      exact .inr (h.p2 c hc).1
  · refine hnm s ?_
    obtain ⟨c, hc, rfl⟩ := List.mem_map.1 (mem_nms hs).1
    exact .inr (h.p2 c hc).2
  · obtain ⟨t, _, rfl⟩ := List.mem_map.1 hr
    obtain ⟨b, _, rfl⟩ := List.mem_map.1 hq'
    exact cellR_dg h.l1 h.n1 hq (by simp; omega) t b
  · obtain ⟨t, _, rfl⟩ := List.mem_map.1 hr
    obtain ⟨b, _, rfl⟩ := List.mem_map.1 hq'
    exact cellR_dg h.l2 h.n2 hq (by simp; omega) t b
/-! ## Doubled counts -/
theorem tabS_dbl (ys : List Cnt) : ∀ a, getI (tabS (ys.map dbl)) a = 2 * getI (tabS ys) a := by
  refine snoc_ind (p := fun ys => ∀ a, getI (tabS (ys.map dbl)) a = 2 * getI (tabS ys) a) ?_ ?_ ys
  · intro a; rfl
  · intro l x ih a
    rw [List.map_append, List.map_cons, List.map_nil, tabS_snoc, tabS_snoc, getI_bump, getI_bump, ih, ih]
    have h1 : (dbl x).1 = x.1 := rfl
    have h2 : (dbl x).2.2 = 2 * x.2.2 := rfl
    rw [h1, h2]
    split <;> omega
theorem tabN_dbl (ys : List Cnt) : ∀ a, getI (tabN (ys.map dbl)) a = 2 * getI (tabN ys) a := by
  refine snoc_ind (p := fun ys => ∀ a, getI (tabN (ys.map dbl)) a = 2 * getI (tabN ys) a) ?_ ?_ ys
  · intro a; rfl
  · intro l x ih a
    rw [List.map_append, List.map_cons, List.map_nil, tabN_snoc, tabN_snoc, getI_setI, getI_setI, ih]
    show (if a = key x then 2 * x.2.2 else _) = _
    split <;> omega
theorem tagsM_dbl (y1 y2 : List Cnt) : tagsM (y1.map dbl) (y2.map dbl) = tagsM y1 y2 := by
  unfold tagsM tagsIn tagN
  rw [List.flatMap_map, List.map_map]; rfl
theorem wordsM_dbl (y2 : List Cnt) : wordsM (y2.map dbl) = wordsM y2 := by
  unfold wordsM wordsIn
  rw [List.map_map]; rfl
theorem cellR_dbl (ys : List Cnt) (a : Str) (L : List Str) (q : Rat) (b : Str) : cellR (tabN (ys.map dbl)) (tabS (ys.map dbl)) a L (q + q) b = cellR (tabN ys) (tabS ys) a L q b := by
  have hA : allQ (tabS (ys.map dbl)) a L (q + q) = 2 * allQ (tabS ys) a L q := by
    unfold allQ
    rw [tabS_dbl]
    push_cast
    grind
  unfold cellR
  rw [hA, tabN_dbl]
  by_cases h : allQ (tabS ys) a L q = 0
  · rw [if_pos h, if_pos (by rw [h]; grind)]
  · have h2 : ¬ 2 * allQ (tabS ys) a L q = 0 := by grind
    rw [if_neg h, if_neg h2]
    push_cast
    grind
theorem rNq_dbl (y1 y2 : List Cnt) (q : Rat) : rNq (y1.map dbl) (y2.map dbl) (q + q) = rNq y1 y2 q := by
  unfold rNq rowR
  rw [tagsM_dbl]
  refine List.map_congr_left fun t _ => List.map_congr_left fun b _ => cellR_dbl _ _ _ _ _
theorem rEq_dbl (y1 y2 : List Cnt) (q : Rat) : rEq (y1.map dbl) (y2.map dbl) (q + q) = rEq y1 y2 q := by
  unfold rEq rowR
  rw [tagsM_dbl, wordsM_dbl]
  refine List.map_congr_left fun t _ => List.map_congr_left fun b _ => cellR_dbl _ _ _ _ _
end Go.Proofs.YtfeegacmmfgjfaaGreatDoorX

/-!  Package top: the example of chapter 36. -/
set_option linter.unusedVariables false
set_option maxRecDepth 10000
namespace Go.Proofs.YtfeegacmmfgjfaaGreatDoorX
open Go Go.RowKit Go.Proofs Go.Proofs.YtfeegacmmfgjfaaGreatDoorM
def aY1 : List Cnt := [([], [68], 2), ([], [78], 2), ([68], [78], 2), ([78], [], 4)]
def aY2 : List Cnt := [([68], [116, 104, 101], 2), ([78], [100, 111, 103], 4)]
theorem aY1_is : IsW (csN (sen ++ sen)) aY1 := .of (by decide +kernel) (by decide +kernel)
theorem aY2_is : IsW (csE (sen ++ sen)) aY2 := .of (by decide +kernel) (by decide +kernel)
theorem a_ok : allOk (sen ++ sen) = true := by decide +kernel
theorem nms_is {xs zs ys : List Str} (hp : zs.Perm (xs.filter fun x => !decide (x = []))) (hs : zs.Pairwise fun a b => decide (a ≤ b) = true) (hc : Lib.compact zs = ys) : nms xs = ys := by
  have h : (xs.filter fun x => !decide (x = [])).mergeSort (fun x y => decide (x ≤ y)) = zs := by
    refine List.Perm.eq_of_pairwise (le := fun a b : Str => decide (a ≤ b) = true) (fun a b _ _ h1 h2 => List.le_antisymm (of_decide_eq_true h1) (of_decide_eq_true h2)) ?_ hs ((List.mergeSort_perm _ _).trans hp.symm)
    refine List.pairwise_mergeSort (le := fun a b : Str => decide (a ≤ b)) (fun a b c h1 h2 => decide_eq_true (List.le_trans (of_decide_eq_true h1) (of_decide_eq_true h2))) (fun a b => ?_) _
    rw [Bool.or_eq_true, decide_eq_true_eq, decide_eq_true_eq]
    exact List.le_total a b
  unfold nms
  rw [h, hc]
theorem aT : tagsM aY1 aY2 = [[68], [78]] := nms_is (zs := [[68], [68], [68], [78], [78], [78], [78]]) (by decide +kernel) (by decide +kernel) (by decide +kernel)
theorem aW : wordsM aY2 = [[100, 111, 103], [116, 104, 101]] := nms_is (zs := [[100, 111, 103], [116, 104, 101]]) (by decide +kernel) (by decide +kernel) (by decide +kernel)
def aRN : List (List Rat) := ([[68], [78], []] : List Str).map fun t => rowR (tabN aY1) (tabS aY1) t [[68], [78], []] 2
def aRE : List (List Rat) := ([[68], [78]] : List Str).map fun t => rowR (tabN aY2) (tabS aY2) t [[100, 111, 103], [116, 104, 101], []] 2
theorem aRN_eq : rNq aY1 aY2 2 = aRN := by unfold rNq; rw [aT]; rfl
theorem aRE_eq : rEq aY1 aY2 2 = aRE := by unfold rEq; rw [aT, aW]; rfl
theorem aTag : tagF [[68], [78]] [[100, 111, 103], [116, 104, 101]] aRN aRE [[116, 104, 101], [100, 111, 103]] = ([[68], [78]], [57, 47, 50, 53, 48], 0) := by decide +kernel
end Go.Proofs.YtfeegacmmfgjfaaGreatDoorX

/-!  Package top: the model of the example. -/
set_option linter.unusedVariables false
set_option maxRecDepth 10000
namespace Go.Proofs.YtfeegacmmfgjfaaGreatDoorX
open Go Go.RowKit Go.Proofs Go.Proofs.YtfeegacmmfgjfaaGreatDoorM
theorem qtxt_two : qtxt 2 = [50] := by decide +kernel
theorem modelA (S : Nat → Prop) (A : Option Addr) (n c : Nat) (w : World) (hL0 : Laid w) (h : SlR (kSl kTok) S w (.slice A n c) (sen ++ sen)) :
    Ret Tryz.prog 14 #[.slice A n c, .string (str [50])] w fun r w' => ∃ vT vW vN vE, r = .tuple #[.agg #[vT, vW, vN, vE], .bool true] ∧ Ext w w' ∧ SlR kStr (New w) w' vT [[68], [78]] ∧ SlR kStr (New w) w' vW [[100, 111, 103], [116, 104, 101]] ∧ SlR (kSl kStr) (New w) w' vN (aRN.map fun r => r.map qtxt) ∧ SlR (kSl kStr) (New w) w' vE (aRE.map fun r => r.map qtxt) := by
  refine fn_ret tok Tryz.func14 (by kernel_rfl) rfl rfl ?_
  (conv => whnf)
  intro b4 w1 hw1
  have hE1 : Ext w w1 := hw1.chg No
  (conv => whnf)
  refine (count S A n c (sen ++ sen) w1 (h.ext hE1) (by decide) (by decide) (by decide)).call ?_
  rintro _ w2 ⟨hE2, ⟨hok, v1, v2, y1, y2, rfl, hI1, hI2, hF1, hF2⟩ | ⟨hok, rfl⟩⟩
  rotate_left
  · rw [a_ok] at hok; cases hok
  obtain rfl := hI1.unique aY1_is
  obtain rfl := hI2.unique aY2_is
  obtain ⟨A1, c1, rfl, _, _⟩ := hF1.shape
  obtain ⟨A2, c2, rfl, _, _⟩ := hF2.shape
  have hE02 := hE1.trans hE2
  have hb4 := hE2.blk hw1.blk (fun h => h)
  have hn4 := hw1.hb
  have r1 := hF1.old
  have r2 := hF2.old
  have hs1 := hw1.size
  have hs2 := hE2.size
  clear hw1 hE1 hE2 hF1 hF2 hI1 hI2 hok
  (conv => whnf)
  intro b6 w3 hw3
  obtain ⟨w4, hr4, hb6, hC4⟩ := store_blk (P := Tryz.prog) (vs := [.slice A1 aY1.length c1, .slice A2 aY2.length c2]) hw3.blk rfl (by intro v hv; simp at hv; rcases hv with rfl | rfl <;> rfl)
  (conv => whnf)
  refine ⟨rfl, w4, hr4, ?_⟩
  have hn6 := hw3.hb
  have hs3 := hw3.size
  have hE24 : Ext w2 w4 := (hw3.chg No).then hC4 fun i hi hm => by omega
  have hE04 := hE02.trans hE24
  have hb4 := hE24.blk hb4 (fun h => h)
  have r1 := r1.ext hE24
  have r2 := r2.ext hE24
  have hs4 := hC4.size
  clear hw3 hr4 hC4 hE24 hE02
  (conv => whnf)
  refine condP_not (condP_yes rfl ?_)
  (conv => whnf)
  refine ⟨_, rfl, cellsAt_blk hb6, ?_⟩
  (conv => whnf)
  have hsm := small_of a_ok (by decide) (by decide) aY1_is aY2_is
  refine (estimate (Old w2) A1 A2 _ c1 _ c2 aY1 aY2 [50] w4 (hL0.ext hE04) r1 r2 hsm.g1 hsm.g2 hsm.p1 hsm.p2 (fun x hx => by have := hsm.n1 x hx; omega) (fun x hx => by have := hsm.n2 x hx; omega) (by decide) (fun q hq => by
    obtain rfl := qtxt_inj (hq.symm.trans qtxt_two.symm)
    exact ⟨by decide +kernel, by decide +kernel⟩)).call ?_
  have hgood : ∃ q, ([50] : Str) = qtxt q ∧ 0 ≤ q ∧ (tagsM aY1 aY2).length ≤ 40 ∧ (wordsM aY2).length ≤ 500 := ⟨2, qtxt_two.symm, by decide, by rw [aT]; decide, by rw [aW]; decide⟩
  rintro _ w5 ⟨hE5, ⟨e, _, _, hbad⟩ | ⟨q, vT, vW, vN, vE, hq, _, _, _, rfl, hT, hW, hN, hE⟩⟩
  · exact absurd hgood hbad
  obtain rfl := qtxt_inj (hq.symm.trans qtxt_two.symm)
  rw [nextM_eq, aRN_eq] at hN
  rw [emitM_eq, aRE_eq] at hE
  rw [aT] at hT
  rw [aW] at hW
  clear hgood hsm r1 r2
  have hb4 := hE5.blk hb4 (fun h => h)
  have hE05 := hE04.trans hE5
  have hs5 := hE5.size
  clear hE04 hE5
  obtain ⟨AT, cT, rfl, _, _⟩ := hT.shape
  obtain ⟨AW, cW, rfl, _, _⟩ := hW.shape
  obtain ⟨AN, cN, rfl, _, _⟩ := hN.shape
  obtain ⟨AE, cE, rfl, _, _⟩ := hE.shape
  (conv => whnf)
  intro b8 w6 hw6
  obtain ⟨w7, hr7, hb8, hC7⟩ := store_blk (P := Tryz.prog) (vs := [.slice AT _ cT, .slice AW _ cW, .slice AN _ cN, .slice AE _ cE]) hw6.blk rfl (by intro v hv; simp at hv; rcases hv with rfl | rfl | rfl | rfl <;> rfl)
  (conv => whnf)
  refine ⟨rfl, w7, hr7, ?_⟩
  have hn8 := hw6.hb
  have hs6 := hw6.size
  have hE57 : Ext w5 w7 := (hw6.chg No).then hC7 fun i hi hm => by omega
  have hb4 := hE57.blk hb4 (fun h => h)
  have hE07 := hE05.trans hE57
  (conv => whnf)
  refine ⟨_, rfl, cellsAt_blk hb8, ?_⟩
  (conv => whnf)
  obtain ⟨w8, hr8, hb4', hC8⟩ := store_blk (P := Tryz.prog) (vs := [.slice AT _ cT, .slice AW _ cW, .slice AN _ cN, .slice AE _ cE]) hb4 rfl (by intro v hv; simp at hv; rcases hv with rfl | rfl | rfl | rfl <;> rfl)
  refine ⟨rfl, w8, hr8, ?_⟩
  (conv => whnf)
  refine ⟨_, rfl, cellsAt_blk hb4', ?_⟩
  refine ⟨_, _, _, _, congrArg (fun b => Value.tuple #[_, .bool b]) (dec_true rfl), hE07.then hC8 fun i hi hm => by omega, ?_, ?_, ?_, ?_⟩
  · exact ((hT.ext hE57).chg hC8 fun b hb e => by have : w4.heap.size ≤ b := hb; omega).mono fun b (hb : w4.heap.size ≤ b) _ => (show w.heap.size ≤ b by omega)
  · exact ((hW.ext hE57).chg hC8 fun b hb e => by have : w4.heap.size ≤ b := hb; omega).mono fun b (hb : w4.heap.size ≤ b) _ => (show w.heap.size ≤ b by omega)
  · exact ((hN.ext hE57).chg hC8 fun b hb e => by have : w4.heap.size ≤ b := hb; omega).mono fun b (hb : w4.heap.size ≤ b) _ => (show w.heap.size ≤ b by omega)
  · exact ((hE.ext hE57).chg hC8 fun b hb e => by have : w4.heap.size ≤ b := hb; omega).mono fun b (hb : w4.heap.size ≤ b) _ => (show w.heap.size ≤ b by omega)
end Go.Proofs.YtfeegacmmfgjfaaGreatDoorX

/-!  Package top: the example. -/
set_option linter.unusedVariables false
set_option maxRecDepth 10000
namespace Go.Proofs.YtfeegacmmfgjfaaGreatDoorX
open Go Go.RowKit Go.Proofs Go.Proofs.YtfeegacmmfgjfaaGreatDoorM
theorem awake (w : World) (hL0 : Laid w) : Ret Tryz.prog 4 #[] w fun r w' => r = .bool true ∧ Ext w w' := by
  refine fn_ret tok Tryz.func4 (by kernel_rfl) rfl rfl ?_
  (conv => whnf)
  refine (sentences w).call ?_
  intro v1 w1 hF1
  (conv => whnf)
  refine (sentences w1).call ?_
  intro v2 w2 hF2
  obtain ⟨A1, c1, rfl, _, _⟩ := hF1.shape
  obtain ⟨A2, c2, rfl, _, _⟩ := hF2.shape
  obtain ⟨S1, ho1, hS1⟩ := (hF1.up hF2.ext).own
  have hE02 := hF1.ext.trans hF2.ext
  have hs1 := hF1.ext.size
  (conv => whnf)
  refine sem_app (k := kSl kTok) (w := w2) (xs := sen) (ys := sen) tok rfl rfl rfl rfl rfl ho1 hF2.read (fun b hb hS => ?_) (by decide) (by decide) fun v3 w3 hO3 hC3 => ?_
  · have := (hF1.newB hb).2
    have : w1.heap.size ≤ b := hS
    omega
  have hE03 : Ext w w3 := hE02.then hC3 fun b hb e => by have := (hF1.newB e).1; omega
  have hr3 := hO3.read
  obtain ⟨A3, c3, rfl, _, _⟩ := hr3.shape
  clear hF1 hF2 ho1 hS1 hE02 hs1 hO3 hC3
  (conv => whnf)
  rw [show ({ data := #[50] } : ByteArray) = str [50] from rfl]
  refine (modelA _ A3 _ c3 w3 (hL0.ext hE03) hr3).call ?_
  rintro _ w4 ⟨vT, vW, vN, vE, rfl, hE4, hT, hW, hN, hE⟩
  have hE04 := hE03.trans hE4
  clear hr3
  obtain ⟨AT, cT, rfl, _, _⟩ := hT.shape
  obtain ⟨AW, cW, rfl, _, _⟩ := hW.shape
  obtain ⟨AN, cN, rfl, _, _⟩ := hN.shape
  obtain ⟨AE, cE, rfl, _, _⟩ := hE.shape
  (conv => whnf)
  intro b2 w5 hw5
  obtain ⟨w6, hr6, hb2, hC6⟩ := store_blk (P := Tryz.prog) (vs := [.slice AT _ cT, .slice AW _ cW, .slice AN _ cN, .slice AE _ cE]) hw5.blk rfl (by intro v hv; simp at hv; rcases hv with rfl | rfl | rfl | rfl <;> rfl)
  (conv => whnf)
  refine ⟨rfl, w6, hr6, ?_⟩
  have hn2 := hw5.hb
  have hE46 : Ext w4 w6 := (hw5.chg No).then hC6 fun i hi hm => by omega
  have hE06 := hE04.trans hE46
  have hT := hT.ext hE46
  have hW := hW.ext hE46
  have hN := hN.ext hE46
  have hE := hE.ext hE46
  clear hw5 hr6 hC6 hE46 hE04
  (conv => whnf)
  refine ⟨_, rfl, cellsAt_blk hb2, ?_⟩
  (conv => whnf)
  intro b7 w7 hw7
  have hwd := str2_new (x := [116, 104, 101]) (y := [100, 111, 103]) hw7
  have hE67 : Ext w6 w7 := hw7.chg No
  have hE07 := hE06.trans hE67
  (conv => whnf)
  have hsm := small_of a_ok (by decide) (by decide) aY1_is aY2_is
  have hMD := modD_of hsm (q := 2) ⟨by decide +kernel, by decide +kernel⟩ (by rw [aT]; decide) (by rw [aW]; decide)
  rw [aT, aW, aRN_eq, aRE_eq] at hMD
  refine (tag (New w3) _ w7 _ _ _ _ _ _ aRN aRE _ _ _ [[116, 104, 101], [100, 111, 103]] (hL0.ext hE07) (hT.ext hE67) (hW.ext hE67) (hN.ext hE67) (hE.ext hE67) hMD (by decide) (by decide) hwd (by decide) (by decide)).call ?_
  rintro _ w8 ⟨v8, rfl, hF8⟩
  rw [aTag] at hF8 ⊢
  obtain ⟨A8, c8, rfl, _, _⟩ := hF8.shape
  clear hT hW hN hE hMD hsm
  dsimp only at hF8 ⊢
  (conv => whnf)
  refine condP_yes rfl ?_
  (conv => whnf)
  intro b8 w9 hw9
  have hwd2 := str2_new (x := [68]) (y := [78]) hw9
  have hE89 : Ext w8 w9 := hw9.chg No
  (conv => whnf)
  refine (sameNames _ _ A8 _ _ c8 _ _ [[68], [78]] w9 (hF8.read.ext hE89) hwd2).call ?_
  rintro _ w10 ⟨rfl, hE10⟩
  (conv => whnf)
  refine ⟨?_, ((hE07.trans hF8.ext).trans hE89).trans hE10⟩
  rw [show ({ data := #[57, 47, 50, 53, 48] } : ByteArray) = str [57, 47, 50, 53, 48] from rfl, strEq_str]
  rfl
end Go.Proofs.YtfeegacmmfgjfaaGreatDoorX

/-!  Sentences turned, and all twice. -/
set_option linter.unusedVariables false
set_option maxRecDepth 10000
namespace Go.Proofs.YtfeegacmmfgjfaaGreatDoorX
open Go Go.RowKit Go.Proofs Go.Proofs.YtfeegacmmfgjfaaGreatDoorM
def twc {α : Type} (l : List α) : List α := l.flatMap fun s => [s, s]
theorem twc_perm {α : Type} (l : List α) : (twc l).Perm (l ++ l) := by
  induction l with
  | nil => exact .refl _
  | cons x r ih =>
    show (x :: x :: twc r).Perm (x :: (r ++ x :: r))
    exact (((ih.cons x).trans List.perm_middle.symm).cons x)
theorem twc_len {α : Type} (l : List α) : (twc l).length = 2 * l.length := by
  have := (twc_perm l).length_eq
  rw [List.length_append] at this; omega
theorem mem_twc {α : Type} {l : List α} {x : α} (h : x ∈ twc l) : x ∈ l := by
  have := (twc_perm l).mem_iff.1 h
  simpa using this
theorem csN_perm {l l' : List (List Tok)} (h : l.Perm l') : (csN l).Perm (csN l') := (h.flatMap_right nx).map cnt1
theorem csE_perm {l l' : List (List Tok)} (h : l.Perm l') : (csE l).Perm (csE l') := (h.flatMap_right em).map cnt1
theorem allOk_mem {l l' : List (List Tok)} (h : allOk l = true) (hm : ∀ s ∈ l', s ∈ l) : allOk l' = true := by
  unfold allOk at h ⊢
  rw [List.all_eq_true] at h ⊢
  exact fun s hs => h s (hm s hs)
theorem isN_twc {l : List (List Tok)} {y z : List Cnt} (h : IsW (csN l) y) (h' : IsW (csN (twc l)) z) : z = y.map dbl := by
  have h2 := h'.perm (csN_perm (twc_perm l))
  rw [show csN (l ++ l) = csN l ++ csN l by unfold csN; rw [List.flatMap_append, List.map_append]] at h2
  exact h2.unique h.dbl
theorem isE_twc {l : List (List Tok)} {y z : List Cnt} (h : IsW (csE l) y) (h' : IsW (csE (twc l)) z) : z = y.map dbl := by
  have h2 := h'.perm (csE_perm (twc_perm l))
  rw [show csE (l ++ l) = csE l ++ csE l by unfold csE; rw [List.flatMap_append, List.map_append]] at h2
  exact h2.unique h.dbl
/-- The operation append(s, x...), and where the result lies. -/
theorem sem_app_own {P : Program} {τ : TT} (hτ : TOk P τ) {t e ty : TypeId} {s1 b1 : Nat} {z1 : Value} {td : TD} {bytes : Nat} {z : Value} {α : Type} {k : Kd α} (ht : tlook τ t = some ⟨.slice e, s1, b1, z1⟩) (he : tlook τ e = some ⟨td, k.nc, bytes, z⟩) (hz : (cellsOf z).length = k.nc)
    {S S' : Nat → Prop} {w : World} {v u : Value} {xs ys : List α} {E : Env} {K : Value → World → Prop} {s x : Operand} (hs : ev E s = some v) (hx : ev E x = some u)
    (ho : Own k e S w v xs) (hy : SlR k S' w u ys) (hd : ∀ b, v.ownBlock = some b → ¬ S' b) (hb : (xs.length + ys.length) * bytes ≤ 140737488355328) (hb2 : xs.length + ys.length ≤ 140737488355328)
    (hK : ∀ v' w', Own k e (fun b => (S b ∨ S' b) ∧ b < w.heap.size ∨ w.heap.size ≤ b) w' v' (xs ++ ys) → Chg (fun b => v.ownBlock = some b) w w' → (∀ b, v'.ownBlock = some b → v.ownBlock = some b ∨ b = w.heap.size) → K v' w') :
    SemOp P (.call { callee := .builtin .append, args := #[s, x], argTypes := #[t, t] }) ty E w K := by
  refine .of fun ρ o hρ hop hty => ?_
  obtain ⟨v', w', hr, h1, h2, h3⟩ := run_app (P := P) hτ (ty := o.type) ht he hz ho hy hd hb hb2
  refine ⟨v', w', ?_, hK v' w' h1 h2 h3⟩
  unfold execOp
  rw [hop]
  simp only [resolve, Sem.run_bind, Sem.run_pure, Result.andThen_ok, invoke, builtin, List.map_toArray, List.map_cons, List.map_nil, hρ s v hs, hρ x u hx, hr]
/-- A new slice of one, of two slices. -/
theorem sl1_new {α : Type} {k : Kd α} {e : TypeId} {S : Nat → Prop} {w w' : World} {b : Nat} {r : Value} {x : List α} (h : NewB w (.cells #[r] e) b w') (hr : SlR k S w r x) : SlR (kSl k) (fun i => S i ∧ i < w.heap.size ∨ i = b) w' (.slice (some ⟨b, 0, none⟩) 1 1) [x] :=
  (Own.lit (kSl k) e (S := S) (xs := [x]) [[r]] rfl (by simpa using h) (fun j u ds hj hc => by
    cases j with
    | zero => simp at hj hc; subst hj; subst hc; exact ⟨r, rfl, hr⟩
    | succ j => simp at hj) (by simp)).read
theorem sl2_new {α : Type} {k : Kd α} {e : TypeId} {S : Nat → Prop} {w w' : World} {b : Nat} {r : Value} {x : List α} (h : NewB w (.cells #[r, r] e) b w') (hr : SlR k S w r x) : SlR (kSl k) (fun i => S i ∧ i < w.heap.size ∨ i = b) w' (.slice (some ⟨b, 0, none⟩) 2 2) [x, x] :=
  (Own.lit (kSl k) e (S := S) (xs := [x, x]) [[r], [r]] rfl (by simpa using h) (fun j u ds hj hc => by
    rcases j with _ | _ | j
    · simp at hj hc; subst hj; subst hc; exact ⟨r, rfl, hr⟩
    · simp at hj hc; subst hj; subst hc; exact ⟨r, rfl, hr⟩
    · simp at hj) (by simp)).read
theorem qtxt_dg {q : Rat} (h : (qtxt q).length ≤ 3) : Dg 3 q := by
  unfold qtxt at h
  rw [List.length_append, List.length_append] at h
  refine ⟨by omega, ?_⟩
  by_cases h1 : q.den = 1
  · rw [h1]; decide +kernel
  · rw [if_neg h1, List.length_cons] at h; omega
theorem dg_two {q : Rat} (h : Dg 3 q) : Dg 4 (q + q) := by
  have h2 : q + q = 2 * q := by grind
  rw [h2]
  exact (Dg.mul (a := 1) (b := 3) ⟨by decide +kernel, by decide +kernel⟩ h)
end Go.Proofs.YtfeegacmmfgjfaaGreatDoorX

/-!  Package top: the statement's walk. -/
set_option linter.unusedVariables false
set_option maxRecDepth 10000
namespace Go.Proofs.YtfeegacmmfgjfaaGreatDoorX
open Go Go.RowKit Go.Proofs Go.Proofs.YtfeegacmmfgjfaaGreatDoorM
theorem Own.own_in {α : Type} {k : Kd α} {e : TypeId} {S : Nat → Prop} {w : World} {v : Value} {xs : List α} (h : Own k e S w v xs) {b : Nat} (hb : v.ownBlock = some b) : S b := by
  obtain ⟨css, _, _, _, hS⟩ := h; exact hS b hb
theorem topDoubled (S S' : Nat → Prop) (A A' : Option Addr) (n c n' c' : Nat) (l : List (List Tok)) (ks : Str) (words : List Str) (w : World) (hL0 : Laid w)
    (h : SlR (kSl kTok) S w (.slice A n c) l) (hlen : ∀ s ∈ l, ∀ t ∈ s, t.1.length ≤ 9223372036854775807 ∧ t.2.length ≤ 9223372036854775807)
    (hws : SlR kStr S' w (.slice A' n' c') words) (hwl : ∀ s ∈ words, s.length ≤ 9223372036854775807) (hkl : ks.length ≤ 9223372036854775807)
    (hAdd : ∀ q, ks = qtxt q → 0 ≤ q → ks.length ≤ 3 → ∀ w1, Ext w w1 → Ret Tryz.prog 9 #[.string (str ks), .string (str ks)] w1 fun v w2 => v = .tuple #[.string (str (qtxt (q + q))), .int .i64 0] ∧ Ext w1 w2) :
    Ret Tryz.prog 3 #[.slice A n c, .string (str ks), .slice A' n' c'] w fun r w' => r = .bool true ∧ Ext w w' := by
  obtain ⟨rfl, hc, hm⟩ := h.len
  obtain ⟨rfl, hc', hm'⟩ := hws.len
  have h := h.old
  have hws := hws.old
  refine fn_ret tok Tryz.func3 (by kernel_rfl) rfl rfl ?_
  (conv => whnf)
  refine condP_dec (fun hl => ?_) (fun hl => ?_)
  · have hE : Ext w w := .refl _ _
    (conv => whnf)
    refine (awake _ (hL0.ext hE)).call ?_
    rintro _ wz ⟨rfl, hEz⟩
    (conv => whnf)
    exact ⟨rfl, hE.trans hEz⟩
  refine condP_dec (fun hk => ?_) (fun hk => ?_)
  · have hE : Ext w w := .refl _ _
    (conv => whnf)
    refine (awake _ (hL0.ext hE)).call ?_
    rintro _ wz ⟨rfl, hEz⟩
    (conv => whnf)
    exact ⟨rfl, hE.trans hEz⟩
  refine condP_dec (fun hw => ?_) (fun hw => ?_)
  · have hE : Ext w w := .refl _ _
    (conv => whnf)
    refine (awake _ (hL0.ext hE)).call ?_
    rintro _ wz ⟨rfl, hEz⟩
    (conv => whnf)
    exact ⟨rfl, hE.trans hEz⟩
  have hk3 : ks.length ≤ 3 := by
    have h0 : ((str ks).size : Int) = ks.length := rfl
    omega
  (conv => whnf)
  refine loop_rule tok [7, 8, 9] [0, 1, 2] (fun vs w' => ∃ (i : Nat) (v7 v8 : Value) (S7 S8 : Nat → Prop), vs = [v7, v8, .int .i64 i] ∧ i ≤ l.length ∧ (∀ s ∈ l.take i, s.length ≤ 4) ∧ Ext w w' ∧ Own (kSl kTok) 25 S7 w' v7 (l.reverse.take i) ∧ Own (kSl kTok) 25 S8 w' v8 (twc (l.take i)) ∧ (∀ b, v7.ownBlock = some b → w.heap.size ≤ b) ∧ (∀ b, v8.ownBlock = some b → w.heap.size ≤ b) ∧ (∀ b, S7 b → w.heap.size ≤ b → ¬ S8 b)) (fun vs w => match vs with | [_, _, .int _ i] => l.length - i.toNat | _ => 0) ?_
  (conv => whnf)
  refine ⟨⟨0, _, _, No, No, rfl, Nat.zero_le _, by simp, .refl _ _, Own.nil _ _ _ _, Own.nil _ _ _ _, fun b hb => (by cases hb), fun b hb => (by cases hb), fun b hb => hb.elim⟩, ?_⟩
  rintro _ w1 ⟨i, v7, v8, S7, S8, rfl, hi, h4, hE, hO7, hO8, hn7, hn8, hd⟩
  (conv => whnf)
  refine condP_dec (fun hlt => ?_) (fun hlt => ?_)
  · obtain ⟨x, hx⟩ : ∃ x, l[i]? = some x := ⟨_, List.getElem?_eq_getElem (by omega)⟩
    obtain ⟨y, hy⟩ : ∃ y, l[l.length - 1 - i]? = some y := ⟨_, List.getElem?_eq_getElem (by omega)⟩
    obtain ⟨ad, rfl⟩ := h.some_ (by omega)
    obtain ⟨ad1, _, he1, hS1, ⟨sx, rfl, hsx⟩, hca1⟩ := h.get hx
    obtain ⟨ad2, _, he2, hS2, ⟨sy, rfl, hsy⟩, hca2⟩ := h.get hy
    cases he1; cases he2
    obtain ⟨Ax, cx, rfl, _, _⟩ := hsx.shape
    obtain ⟨Ay, cy, rfl, _, _⟩ := hsy.shape
    have hc1 := cellsAt_zero hca1 (u := .slice Ax x.length cx) rfl
    have hc2 := cellsAt_zero hca2 (u := .slice Ay y.length cy) rfl
    (repeat ((conv => whnf); first | refine numP_i64 (by omega) ?_ | refine numP_u64 (by omega) ?_ | refine numP_u8 (by omega) ?_ | refine Exists.intro _ (And.intro ‹_› ?_) | refine Exists.intro _ (And.intro rfl ?_) | refine And.intro (by omega) (Exists.intro _ (And.intro rfl ?_)) | refine And.intro (by omega) ?_)); (conv => whnf)
    refine ⟨_, by rw [Int.toNat_natCast]; exact hE.cell hc1 (fun h => h), ?_⟩
    (conv => whnf)
    refine condP_dec (fun hx4 => ?_) (fun hx4 => ?_)
    · (conv => whnf)
      refine (awake _ (hL0.ext hE)).call ?_
      rintro _ wz ⟨rfl, hEz⟩
      (conv => whnf)
      exact ⟨rfl, hE.trans hEz⟩
    (repeat ((conv => whnf); first | refine numP_i64 (by omega) ?_ | refine numP_u64 (by omega) ?_ | refine numP_u8 (by omega) ?_ | refine Exists.intro _ (And.intro ‹_› ?_) | refine Exists.intro _ (And.intro rfl ?_) | refine And.intro (by omega) (Exists.intro _ (And.intro rfl ?_)) | refine And.intro (by omega) ?_)); (conv => whnf)
    refine ⟨_, by rw [show ((l.length : Int) - 1 - (i : Int)).toNat = l.length - 1 - i by omega]; exact hE.cell hc2 (fun h => h), ?_⟩
    (conv => whnf)
    intro b61 w2 hw61
    (conv => whnf)
    have hn61 := hw61.hb
    have hs2 := hw61.size
    have hsz := hE.size
    have hE12 : Ext w1 w2 := hw61.chg No
    refine sem_app_own (k := kSl kTok) (xs := l.reverse.take i) (ys := [y]) (S' := fun b => Old w b ∧ b < w1.heap.size ∨ b = b61) tok rfl rfl rfl rfl rfl (hO7.ext hE12) (sl1_new hw61 (hsy.ext hE)) (fun b hb hS => ?_) (by simp; omega) (by simp; omega) fun v7' w3 hO7' hC3 ho7 => ?_
    · have h1 := hn7 b hb
      have h2 := hO7.lt hb
      rcases hS with ⟨h3, _⟩ | rfl
      · have : b < w.heap.size := h3
        omega
      · omega
    have hO8' := ((hO8.mono (S' := fun b => S8 b ∧ b < w1.heap.size) fun b hb hlt => ⟨hb, hlt⟩).ext hE12).chg hC3 fun b hb _ e => hd b (hO7.own_in e) (hn7 b e) hb.1
    have hE13 : Ext w w3 := (hE.trans hE12).then hC3 fun b hb e => by have := hn7 b e; omega
    have hs3 := hC3.size
    have hO7 := (hO7'.mono (S' := fun b => (S7 b ∨ Old w b ∨ w1.heap.size ≤ b) ∧ b < w3.heap.size) fun b hb hlt => ⟨by
      rcases hb with ⟨hb | ⟨hb, _⟩ | rfl, _⟩ | hb
      · exact .inl hb
      · exact .inr (.inl hb)
      · exact .inr (.inr (by omega))
      · exact .inr (.inr (by omega)), hlt⟩).ext (Chg.drew No _)
    have hn7' : ∀ b, v7'.ownBlock = some b → w.heap.size ≤ b := fun b hb => by
      rcases ho7 b hb with h1 | rfl
      · exact hn7 b h1
      · omega
    have hO8 := hO8'.ext (Chg.drew No _)
    (conv => whnf)
    refine draw_held tok mixed (fun w' => Ext w w') (ones [0, 1, 2, 3, 4, 5, 6, 7, 8] (.alt 9 (.alt 10 (ones [11] .done) .nil) .nil)) (by decide +kernel) (by decide +kernel) (hE13.trans (Chg.drew _ _)) ?_
    (repeat ((conv => whnf); first | refine numP_i64 (by omega) ?_ | refine numP_u64 (by omega) ?_ | refine numP_u8 (by omega) ?_ | refine Exists.intro _ (And.intro ‹_› ?_) | refine Exists.intro _ (And.intro rfl ?_) | refine And.intro (by omega) (Exists.intro _ (And.intro rfl ?_)) | refine And.intro (by omega) ?_)); (conv => whnf)
    refine ⟨_, fun w' hw' => by rw [Int.toNat_natCast]; exact hw'.cell hc1 (fun h => h), ?_⟩
    (repeat ((conv => whnf); first | refine numP_i64 (by omega) ?_ | refine numP_u64 (by omega) ?_ | refine numP_u8 (by omega) ?_ | refine Exists.intro _ (And.intro ‹_› ?_) | refine Exists.intro _ (And.intro rfl ?_) | refine And.intro (by omega) (Exists.intro _ (And.intro rfl ?_)) | refine And.intro (by omega) ?_)); (conv => whnf)
    refine ⟨_, fun w' hw' => by rw [Int.toNat_natCast]; exact hw'.cell hc1 (fun h => h), ?_⟩
    (conv => whnf)
    refine ⟨?_, trivial⟩
    intro b72 w4 hw72
    have hE34 : Ext w3 w4 := (Chg.drew _ _).trans (hw72.chg No)
    refine ⟨hE13.trans hE34, ?_⟩
    (conv => whnf)
    refine ⟨?_, trivial⟩
    (conv => whnf)
    refine sem_app_own (k := kSl kTok) (xs := twc (l.take i)) (ys := [x, x]) (S' := fun b => Old w b ∧ b < w3.drew.heap.size ∨ b = b72) tok rfl rfl rfl rfl rfl (hO8.ext (hw72.chg No)) (sl2_new hw72 (hsx.ext (hE13.trans (Chg.drew _ _)))) (fun b hb hS => ?_) (by rw [twc_len]; simp; omega) (by rw [twc_len]; simp; omega) fun v8' w5 hO8' hC5 ho8 => ?_
    · have h1 := hn8 b hb
      have h2 := hO8.lt hb
      have h4 := hw72.hb
      rcases hS with ⟨h3, _⟩ | rfl
      · have : b < w.heap.size := h3
        omega
      · omega
    have hE35 := hE34.mono (M' := fun b => v8.ownBlock = some b) fun _ _ h => h.elim
    have hC35 := hE35.trans hC5
    have hs4 := hw72.size
    have hs5 := hC5.size
    have hd3 : w3.drew.heap.size = w3.heap.size := rfl
    (conv => whnf)
    refine ⟨hE13.then hC35 (fun b hb e => by have := hn8 b e; omega), ?_⟩
    (repeat ((conv => whnf); first | refine numP_i64 (by omega) ?_ | refine numP_u64 (by omega) ?_ | refine numP_u8 (by omega) ?_ | refine Exists.intro _ (And.intro ‹_› ?_) | refine Exists.intro _ (And.intro rfl ?_) | refine And.intro (by omega) (Exists.intro _ (And.intro rfl ?_)) | refine And.intro (by omega) ?_)); (conv => whnf)
    have hO7 := (hO7.ext (hw72.chg No)).chg hC5 fun b hb _ e => by
      rcases hb with ⟨hb | hb | hb, _⟩
      · exact hd b hb (hn8 b e) (hO8.own_in e).1
      · have := hn8 b e; have : b < w.heap.size := hb; omega
      · have := (hO8.own_in e).2; omega
    refine ⟨⟨rfl, rfl⟩, ⟨i + 1, v7', v8', fun b => (S7 b ∨ Old w b ∨ w1.heap.size ≤ b) ∧ b < w3.heap.size, fun b => (S8 b ∧ b < w1.heap.size) ∨ Old w b ∨ w3.heap.size ≤ b, rfl, by omega, ?_, hE13.then hC35 (fun b hb e => by have := hn8 b e; omega), ?_, ?_, hn7', fun b hb => ?_, fun b hb hwb h8 => ?_⟩, by simp; omega⟩
    · intro s hs
      rw [List.take_add_one, hx] at hs
      rcases List.mem_append.1 hs with h1 | h1
      · exact h4 s h1
      · simp at h1; subst h1; omega
    · have : l.reverse.take (i + 1) = l.reverse.take i ++ [y] := by
        rw [List.take_add_one, List.getElem?_reverse (by omega), hy]; rfl
      rw [this]; exact hO7
    · have : twc (l.take (i + 1)) = twc (l.take i) ++ [x, x] := by
        rw [List.take_add_one, hx]; simp [twc]
      rw [this]
      exact hO8'.mono fun b hb hlt => by
        rcases hb with ⟨hb | ⟨hb, _⟩ | rfl, _⟩ | hb
        · exact .inl hb
        · exact .inr (.inl hb)
        · exact .inr (.inr (by have := hw72.hb; omega))
        · exact .inr (.inr (by omega))
    · rcases ho8 b hb with h1 | rfl
      · exact hn8 b h1
      · omega
    · rcases hb with ⟨hb, hlt3⟩
      rcases h8 with ⟨h8, hlt1⟩ | h8 | h8
      · rcases hb with hb | hb | hb
        · exact hd b hb hwb h8
        · have : b < w.heap.size := hb; omega
        · omega
      · have : b < w.heap.size := h8; omega
      · omega
  obtain rfl : i = l.length := by omega
  rw [List.take_of_length_le (by simp)] at hO7
  rw [List.take_length] at hO8 h4
  have r7 := hO7.read.old
  have r8 := hO8.read.old
  obtain ⟨A7, c7, rfl, _, _⟩ := r7.shape
  obtain ⟨A8, c8, rfl, _, _⟩ := r8.shape
  clear hO7 hO8 hn7 hn8 hd hlt hi
  (conv => whnf)
  refine (count (Old w) A _ c l w1 (h.ext hE) (by omega) h4 hlen).call ?_
  rintro _ w2 ⟨hx, ⟨hok, v1, v2, y1, y2, rfl, hI1, hI2, hF1, hF2⟩ | ⟨hok, rfl⟩⟩
  rotate_left
  · (try replace q1 := q1.ext hx)
    (try replace q2 := q2.ext hx)
    (try replace p1 := p1.ext hx)
    (try replace p2 := p2.ext hx)
    (try replace g1 := g1.ext hx)
    (try replace g2 := g2.ext hx)
    (try replace m1 := m1.ext hx)
    (try replace m2 := m2.ext hx)
    (try replace r7 := r7.ext hx)
    (try replace r8 := r8.ext hx)
    (try replace hb10 := hx.blk hb10 (fun h => h))
    (try replace hb12 := hx.blk hb12 (fun h => h))
    (try replace hb14 := hx.blk hb14 (fun h => h))
    (try replace hb16 := hx.blk hb16 (fun h => h))
    (try replace hb18 := hx.blk hb18 (fun h => h))
    (try replace xT := xT.ext hx)
    (try replace xW := xW.ext hx)
    (try replace xN := xN.ext hx)
    (try replace xE := xE.ext hx)
    replace hE := hE.trans hx
    (conv => whnf)
    intro bz wy hwy
    obtain ⟨wx, hrx, hbx, hCx⟩ := store_blk (P := Tryz.prog) (vs := [.slice none 0 0, .slice none 0 0]) hwy.blk rfl (by intro v hv; simp at hv; rcases hv with rfl | rfl <;> rfl)
    (conv => whnf)
    refine ⟨rfl, wx, hrx, ?_⟩
    have hnz := hwy.hb
    have hx := (hwy.chg No).then hCx fun i hi hm => by omega
    (try replace q1 := q1.ext hx)
    (try replace q2 := q2.ext hx)
    (try replace p1 := p1.ext hx)
    (try replace p2 := p2.ext hx)
    (try replace g1 := g1.ext hx)
    (try replace g2 := g2.ext hx)
    (try replace m1 := m1.ext hx)
    (try replace m2 := m2.ext hx)
    (try replace r7 := r7.ext hx)
    (try replace r8 := r8.ext hx)
    (try replace hb10 := hx.blk hb10 (fun h => h))
    (try replace hb12 := hx.blk hb12 (fun h => h))
    (try replace hb14 := hx.blk hb14 (fun h => h))
    (try replace hb16 := hx.blk hb16 (fun h => h))
    (try replace hb18 := hx.blk hb18 (fun h => h))
    (try replace xT := xT.ext hx)
    (try replace xW := xW.ext hx)
    (try replace xN := xN.ext hx)
    (try replace xE := xE.ext hx)
    replace hE := hE.trans hx
    (conv => whnf)
    refine condP_not (condP_no (by omega) ?_)
    (conv => whnf)
    refine (awake _ (hL0.ext hE)).call ?_
    rintro _ wz ⟨rfl, hEz⟩
    (conv => whnf)
    exact ⟨rfl, hE.trans hEz⟩
  (try replace q1 := q1.ext hx)
  (try replace q2 := q2.ext hx)
  (try replace p1 := p1.ext hx)
  (try replace p2 := p2.ext hx)
  (try replace g1 := g1.ext hx)
  (try replace g2 := g2.ext hx)
  (try replace m1 := m1.ext hx)
  (try replace m2 := m2.ext hx)
  (try replace r7 := r7.ext hx)
  (try replace r8 := r8.ext hx)
  (try replace hb10 := hx.blk hb10 (fun h => h))
  (try replace hb12 := hx.blk hb12 (fun h => h))
  (try replace hb14 := hx.blk hb14 (fun h => h))
  (try replace hb16 := hx.blk hb16 (fun h => h))
  (try replace hb18 := hx.blk hb18 (fun h => h))
  (try replace xT := xT.ext hx)
  (try replace xW := xW.ext hx)
  (try replace xN := xN.ext hx)
  (try replace xE := xE.ext hx)
  replace hE := hE.trans hx
  have q1 := hF1.old
  have q2 := hF2.old
  clear hF1 hF2
  obtain ⟨A1, c1, rfl, _, _⟩ := q1.shape
  obtain ⟨A2, c2, rfl, _, _⟩ := q2.shape
  (conv => whnf)
  intro b10 w3 hw3
  obtain ⟨w4, hr4, hb10, hC4⟩ := store_blk (P := Tryz.prog) (vs := [.slice A1 y1.length c1, .slice A2 y2.length c2]) hw3.blk rfl (by intro v hv; simp at hv; rcases hv with rfl | rfl <;> rfl)
  (conv => whnf)
  refine ⟨rfl, w4, hr4, ?_⟩
  have hn := hw3.hb
  have hx : Ext w2 w4 := (hw3.chg No).then hC4 fun i hi hm => by omega
  clear hw3 hr4 hC4 hn
  (try replace q1 := q1.ext hx)
  (try replace q2 := q2.ext hx)
  (try replace p1 := p1.ext hx)
  (try replace p2 := p2.ext hx)
  (try replace g1 := g1.ext hx)
  (try replace g2 := g2.ext hx)
  (try replace m1 := m1.ext hx)
  (try replace m2 := m2.ext hx)
  (try replace r7 := r7.ext hx)
  (try replace r8 := r8.ext hx)
  (try replace hb10 := hx.blk hb10 (fun h => h))
  (try replace hb12 := hx.blk hb12 (fun h => h))
  (try replace hb14 := hx.blk hb14 (fun h => h))
  (try replace hb16 := hx.blk hb16 (fun h => h))
  (try replace hb18 := hx.blk hb18 (fun h => h))
  (try replace xT := xT.ext hx)
  (try replace xW := xW.ext hx)
  (try replace xN := xN.ext hx)
  (try replace xE := xE.ext hx)
  replace hE := hE.trans hx
  (conv => whnf)
  refine condP_not (condP_yes rfl ?_)
  (conv => whnf)
  refine (count (Old w1) A7 _ c7 l.reverse w4 r7 (by simp; omega) (fun s hs => h4 s (by simpa using hs)) (fun s hs => hlen s (by simpa using hs))).call ?_
  rintro _ w5 ⟨hx, ⟨_, v1, v2, y1', y2', rfl, hI1', hI2', hF1, hF2⟩ | ⟨hok', rfl⟩⟩
  rotate_left
  · rw [allOk_mem hok (fun s hs => by simpa using hs)] at hok'; cases hok'
  have e1 := hI1'.unique (hI1.perm (csN_perm (List.reverse_perm l).symm))
  have e2 := hI2'.unique (hI2.perm (csE_perm (List.reverse_perm l).symm))
  subst y1' y2'
  (try replace q1 := q1.ext hx)
  (try replace q2 := q2.ext hx)
  (try replace p1 := p1.ext hx)
  (try replace p2 := p2.ext hx)
  (try replace g1 := g1.ext hx)
  (try replace g2 := g2.ext hx)
  (try replace m1 := m1.ext hx)
  (try replace m2 := m2.ext hx)
  (try replace r7 := r7.ext hx)
  (try replace r8 := r8.ext hx)
  (try replace hb10 := hx.blk hb10 (fun h => h))
  (try replace hb12 := hx.blk hb12 (fun h => h))
  (try replace hb14 := hx.blk hb14 (fun h => h))
  (try replace hb16 := hx.blk hb16 (fun h => h))
  (try replace hb18 := hx.blk hb18 (fun h => h))
  (try replace xT := xT.ext hx)
  (try replace xW := xW.ext hx)
  (try replace xN := xN.ext hx)
  (try replace xE := xE.ext hx)
  replace hE := hE.trans hx
  have p1 := hF1.old
  have p2 := hF2.old
  clear hF1 hF2 hI1' hI2'
  obtain ⟨A3, c3, rfl, _, _⟩ := p1.shape
  obtain ⟨A4, c4, rfl, _, _⟩ := p2.shape
  (conv => whnf)
  intro b12 w6 hw6
  obtain ⟨w7, hr7, hb12, hC7⟩ := store_blk (P := Tryz.prog) (vs := [.slice A3 y1.length c3, .slice A4 y2.length c4]) hw6.blk rfl (by intro v hv; simp at hv; rcases hv with rfl | rfl <;> rfl)
  (conv => whnf)
  refine ⟨rfl, w7, hr7, ?_⟩
  have hn := hw6.hb
  have hx : Ext w5 w7 := (hw6.chg No).then hC7 fun i hi hm => by omega
  clear hw6 hr7 hC7 hn
  (try replace q1 := q1.ext hx)
  (try replace q2 := q2.ext hx)
  (try replace p1 := p1.ext hx)
  (try replace p2 := p2.ext hx)
  (try replace g1 := g1.ext hx)
  (try replace g2 := g2.ext hx)
  (try replace m1 := m1.ext hx)
  (try replace m2 := m2.ext hx)
  (try replace r7 := r7.ext hx)
  (try replace r8 := r8.ext hx)
  (try replace hb10 := hx.blk hb10 (fun h => h))
  (try replace hb12 := hx.blk hb12 (fun h => h))
  (try replace hb14 := hx.blk hb14 (fun h => h))
  (try replace hb16 := hx.blk hb16 (fun h => h))
  (try replace hb18 := hx.blk hb18 (fun h => h))
  (try replace xT := xT.ext hx)
  (try replace xW := xW.ext hx)
  (try replace xN := xN.ext hx)
  (try replace xE := xE.ext hx)
  replace hE := hE.trans hx
  (conv => whnf)
  have h4t : ∀ s ∈ twc l, s.length ≤ 4 := fun s hs => h4 s (mem_twc hs)
  have hlt : (twc l).length ≤ 8 := by rw [twc_len]; omega
  refine (count (Old w1) A8 _ c8 (twc l) w7 r8 hlt h4t (fun s hs => hlen s (mem_twc hs))).call ?_
  rintro _ w8 ⟨hx, ⟨hokt, v1, v2, z1, z2, rfl, hJ1, hJ2, hF1, hF2⟩ | ⟨hok', rfl⟩⟩
  rotate_left
  · rw [allOk_mem hok (fun s hs => mem_twc hs)] at hok'; cases hok'
  have hsm2 := small_of hokt hlt h4t hJ1 hJ2
  have e1 := isN_twc hI1 hJ1
  have e2 := isE_twc hI2 hJ2
  subst z1 z2
  (try replace q1 := q1.ext hx)
  (try replace q2 := q2.ext hx)
  (try replace p1 := p1.ext hx)
  (try replace p2 := p2.ext hx)
  (try replace g1 := g1.ext hx)
  (try replace g2 := g2.ext hx)
  (try replace m1 := m1.ext hx)
  (try replace m2 := m2.ext hx)
  (try replace r7 := r7.ext hx)
  (try replace r8 := r8.ext hx)
  (try replace hb10 := hx.blk hb10 (fun h => h))
  (try replace hb12 := hx.blk hb12 (fun h => h))
  (try replace hb14 := hx.blk hb14 (fun h => h))
  (try replace hb16 := hx.blk hb16 (fun h => h))
  (try replace hb18 := hx.blk hb18 (fun h => h))
  (try replace xT := xT.ext hx)
  (try replace xW := xW.ext hx)
  (try replace xN := xN.ext hx)
  (try replace xE := xE.ext hx)
  replace hE := hE.trans hx
  have g1 := hF1.old
  have g2 := hF2.old
  clear hF1 hF2 hJ1 hJ2
  obtain ⟨A5, c5, rfl, _, _⟩ := g1.shape
  obtain ⟨A6, c6, rfl, _, _⟩ := g2.shape
  (conv => whnf)
  intro b14 w9 hw9
  obtain ⟨w10, hr10, hb14, hC10⟩ := store_blk (P := Tryz.prog) (vs := [.slice A5 (y1.map dbl).length c5, .slice A6 (y2.map dbl).length c6]) hw9.blk rfl (by intro v hv; simp at hv; rcases hv with rfl | rfl <;> rfl)
  (conv => whnf)
  refine ⟨rfl, w10, hr10, ?_⟩
  have hn := hw9.hb
  have hx : Ext w8 w10 := (hw9.chg No).then hC10 fun i hi hm => by omega
  clear hw9 hr10 hC10 hn
  (try replace q1 := q1.ext hx)
  (try replace q2 := q2.ext hx)
  (try replace p1 := p1.ext hx)
  (try replace p2 := p2.ext hx)
  (try replace g1 := g1.ext hx)
  (try replace g2 := g2.ext hx)
  (try replace m1 := m1.ext hx)
  (try replace m2 := m2.ext hx)
  (try replace r7 := r7.ext hx)
  (try replace r8 := r8.ext hx)
  (try replace hb10 := hx.blk hb10 (fun h => h))
  (try replace hb12 := hx.blk hb12 (fun h => h))
  (try replace hb14 := hx.blk hb14 (fun h => h))
  (try replace hb16 := hx.blk hb16 (fun h => h))
  (try replace hb18 := hx.blk hb18 (fun h => h))
  (try replace xT := xT.ext hx)
  (try replace xW := xW.ext hx)
  (try replace xN := xN.ext hx)
  (try replace xE := xE.ext hx)
  replace hE := hE.trans hx
  (conv => whnf)
  refine ⟨_, rfl, cellsAt_blk hb10, ?_⟩
  (conv => whnf)
  refine ⟨_, rfl, cellsAt_blk hb10, ?_⟩
  (conv => whnf)
  have hsm := small_of hok (by omega) h4 hI1 hI2
  refine (merge (Old w10) A1 A2 A1 A2 _ c1 _ c2 _ c1 _ c2 y1 y2 y1 y2 w10 q1.old q2.old q1.old q2.old hsm hsm).call ?_
  rintro _ w11 ⟨v1, v2, z1, z2, rfl, hJ1, hJ2, hF1, hF2⟩
  have hx := hF1.ext
  have e1 := hJ1.unique hI1.self.dbl
  have e2 := hJ2.unique hI2.self.dbl
  subst z1 z2
  (try replace q1 := q1.ext hx)
  (try replace q2 := q2.ext hx)
  (try replace p1 := p1.ext hx)
  (try replace p2 := p2.ext hx)
  (try replace g1 := g1.ext hx)
  (try replace g2 := g2.ext hx)
  (try replace m1 := m1.ext hx)
  (try replace m2 := m2.ext hx)
  (try replace r7 := r7.ext hx)
  (try replace r8 := r8.ext hx)
  (try replace hb10 := hx.blk hb10 (fun h => h))
  (try replace hb12 := hx.blk hb12 (fun h => h))
  (try replace hb14 := hx.blk hb14 (fun h => h))
  (try replace hb16 := hx.blk hb16 (fun h => h))
  (try replace hb18 := hx.blk hb18 (fun h => h))
  (try replace xT := xT.ext hx)
  (try replace xW := xW.ext hx)
  (try replace xN := xN.ext hx)
  (try replace xE := xE.ext hx)
  replace hE := hE.trans hx
  have m1 := hF1.old
  have m2 := hF2.old
  clear hF1 hF2 hJ1 hJ2
  obtain ⟨B5, d5, rfl, _, _⟩ := m1.shape
  obtain ⟨B6, d6, rfl, _, _⟩ := m2.shape
  (conv => whnf)
  intro b16 w12 hw12
  obtain ⟨w13, hr13, hb16, hC13⟩ := store_blk (P := Tryz.prog) (vs := [.slice B5 (y1.map dbl).length d5, .slice B6 (y2.map dbl).length d6]) hw12.blk rfl (by intro v hv; simp at hv; rcases hv with rfl | rfl <;> rfl)
  (conv => whnf)
  refine ⟨rfl, w13, hr13, ?_⟩
  have hn := hw12.hb
  have hx : Ext w11 w13 := (hw12.chg No).then hC13 fun i hi hm => by omega
  clear hw12 hr13 hC13 hn
  (try replace q1 := q1.ext hx)
  (try replace q2 := q2.ext hx)
  (try replace p1 := p1.ext hx)
  (try replace p2 := p2.ext hx)
  (try replace g1 := g1.ext hx)
  (try replace g2 := g2.ext hx)
  (try replace m1 := m1.ext hx)
  (try replace m2 := m2.ext hx)
  (try replace r7 := r7.ext hx)
  (try replace r8 := r8.ext hx)
  (try replace hb10 := hx.blk hb10 (fun h => h))
  (try replace hb12 := hx.blk hb12 (fun h => h))
  (try replace hb14 := hx.blk hb14 (fun h => h))
  (try replace hb16 := hx.blk hb16 (fun h => h))
  (try replace hb18 := hx.blk hb18 (fun h => h))
  (try replace xT := xT.ext hx)
  (try replace xW := xW.ext hx)
  (try replace xN := xN.ext hx)
  (try replace xE := xE.ext hx)
  replace hE := hE.trans hx
  clear r7 r8 h
  (conv => whnf)
  refine condP_not (condP_yes rfl ?_)
  (conv => whnf)
  refine condP_not (condP_yes rfl ?_)
  (conv => whnf)
  refine condP_not (condP_yes rfl ?_)
  (conv => whnf)
  refine ⟨_, by rw [addr_add, cell_of_blk hb10]; rfl, ?_⟩
  (conv => whnf)
  refine ⟨_, by rw [addr_add, cell_of_blk hb12]; rfl, ?_⟩
  (conv => whnf)
  refine (counted _ _ _ _ _ _ _ _ _ _ q1 p1).call ?_
  rintro _ w14 ⟨rfl, hx⟩
  (try replace q1 := q1.ext hx)
  (try replace q2 := q2.ext hx)
  (try replace p1 := p1.ext hx)
  (try replace p2 := p2.ext hx)
  (try replace g1 := g1.ext hx)
  (try replace g2 := g2.ext hx)
  (try replace m1 := m1.ext hx)
  (try replace m2 := m2.ext hx)
  (try replace r7 := r7.ext hx)
  (try replace r8 := r8.ext hx)
  (try replace hb10 := hx.blk hb10 (fun h => h))
  (try replace hb12 := hx.blk hb12 (fun h => h))
  (try replace hb14 := hx.blk hb14 (fun h => h))
  (try replace hb16 := hx.blk hb16 (fun h => h))
  (try replace hb18 := hx.blk hb18 (fun h => h))
  (try replace xT := xT.ext hx)
  (try replace xW := xW.ext hx)
  (try replace xN := xN.ext hx)
  (try replace xE := xE.ext hx)
  replace hE := hE.trans hx
  (conv => whnf)
  refine ⟨_, by rw [addr_add, cell_of_blk hb10]; rfl, ?_⟩
  (conv => whnf)
  refine ⟨_, by rw [addr_add, cell_of_blk hb12]; rfl, ?_⟩
  (conv => whnf)
  refine (counted _ _ _ _ _ _ _ _ _ _ q2 p2).call ?_
  rintro _ w15 ⟨rfl, hx⟩
  (try replace q1 := q1.ext hx)
  (try replace q2 := q2.ext hx)
  (try replace p1 := p1.ext hx)
  (try replace p2 := p2.ext hx)
  (try replace g1 := g1.ext hx)
  (try replace g2 := g2.ext hx)
  (try replace m1 := m1.ext hx)
  (try replace m2 := m2.ext hx)
  (try replace r7 := r7.ext hx)
  (try replace r8 := r8.ext hx)
  (try replace hb10 := hx.blk hb10 (fun h => h))
  (try replace hb12 := hx.blk hb12 (fun h => h))
  (try replace hb14 := hx.blk hb14 (fun h => h))
  (try replace hb16 := hx.blk hb16 (fun h => h))
  (try replace hb18 := hx.blk hb18 (fun h => h))
  (try replace xT := xT.ext hx)
  (try replace xW := xW.ext hx)
  (try replace xN := xN.ext hx)
  (try replace xE := xE.ext hx)
  replace hE := hE.trans hx
  (conv => whnf)
  refine ⟨_, by rw [addr_add, cell_of_blk hb14]; rfl, ?_⟩
  (conv => whnf)
  refine ⟨_, by rw [addr_add, cell_of_blk hb16]; rfl, ?_⟩
  (conv => whnf)
  refine (counted _ _ _ _ _ _ _ _ _ _ g1 m1).call ?_
  rintro _ w16 ⟨rfl, hx⟩
  (try replace q1 := q1.ext hx)
  (try replace q2 := q2.ext hx)
  (try replace p1 := p1.ext hx)
  (try replace p2 := p2.ext hx)
  (try replace g1 := g1.ext hx)
  (try replace g2 := g2.ext hx)
  (try replace m1 := m1.ext hx)
  (try replace m2 := m2.ext hx)
  (try replace r7 := r7.ext hx)
  (try replace r8 := r8.ext hx)
  (try replace hb10 := hx.blk hb10 (fun h => h))
  (try replace hb12 := hx.blk hb12 (fun h => h))
  (try replace hb14 := hx.blk hb14 (fun h => h))
  (try replace hb16 := hx.blk hb16 (fun h => h))
  (try replace hb18 := hx.blk hb18 (fun h => h))
  (try replace xT := xT.ext hx)
  (try replace xW := xW.ext hx)
  (try replace xN := xN.ext hx)
  (try replace xE := xE.ext hx)
  replace hE := hE.trans hx
  (conv => whnf)
  refine ⟨_, by rw [addr_add, cell_of_blk hb14]; rfl, ?_⟩
  (conv => whnf)
  refine ⟨_, by rw [addr_add, cell_of_blk hb16]; rfl, ?_⟩
  (conv => whnf)
  refine (counted _ _ _ _ _ _ _ _ _ _ g2 m2).call ?_
  rintro _ w17 ⟨rfl, hx⟩
  (try replace q1 := q1.ext hx)
  (try replace q2 := q2.ext hx)
  (try replace p1 := p1.ext hx)
  (try replace p2 := p2.ext hx)
  (try replace g1 := g1.ext hx)
  (try replace g2 := g2.ext hx)
  (try replace m1 := m1.ext hx)
  (try replace m2 := m2.ext hx)
  (try replace r7 := r7.ext hx)
  (try replace r8 := r8.ext hx)
  (try replace hb10 := hx.blk hb10 (fun h => h))
  (try replace hb12 := hx.blk hb12 (fun h => h))
  (try replace hb14 := hx.blk hb14 (fun h => h))
  (try replace hb16 := hx.blk hb16 (fun h => h))
  (try replace hb18 := hx.blk hb18 (fun h => h))
  (try replace xT := xT.ext hx)
  (try replace xW := xW.ext hx)
  (try replace xN := xN.ext hx)
  (try replace xE := xE.ext hx)
  replace hE := hE.trans hx
  (conv => whnf)
  refine ⟨_, rfl, cellsAt_blk hb10, ?_⟩
  (conv => whnf)
  refine (estimate (Old w2) A1 A2 _ c1 _ c2 y1 y2 ks w17 (hL0.ext hE) q1 q2 hsm.g1 hsm.g2 hsm.p1 hsm.p2 (fun x hx => by have := hsm.n1 x hx; omega) (fun x hx => by have := hsm.n2 x hx; omega) (by omega) (fun q hq => by subst hq; exact (qtxt_dg (by omega)).mono (by omega))).call ?_
  rintro _ w18 ⟨hx, ⟨e, he, rfl, _⟩ | ⟨q, vT, vW, vN, vE, hq, hq0, hT40, hW500, rfl, xT, xW, xN, xE⟩⟩
  · (try replace q1 := q1.ext hx)
    (try replace q2 := q2.ext hx)
    (try replace p1 := p1.ext hx)
    (try replace p2 := p2.ext hx)
    (try replace g1 := g1.ext hx)
    (try replace g2 := g2.ext hx)
    (try replace m1 := m1.ext hx)
    (try replace m2 := m2.ext hx)
    (try replace r7 := r7.ext hx)
    (try replace r8 := r8.ext hx)
    (try replace hb10 := hx.blk hb10 (fun h => h))
    (try replace hb12 := hx.blk hb12 (fun h => h))
    (try replace hb14 := hx.blk hb14 (fun h => h))
    (try replace hb16 := hx.blk hb16 (fun h => h))
    (try replace hb18 := hx.blk hb18 (fun h => h))
    (try replace xT := xT.ext hx)
    (try replace xW := xW.ext hx)
    (try replace xN := xN.ext hx)
    (try replace xE := xE.ext hx)
    replace hE := hE.trans hx
    (conv => whnf)
    intro bz wy hwy
    obtain ⟨wx, hrx, hbx, hCx⟩ := store_blk (P := Tryz.prog) (vs := [.slice none 0 0, .slice none 0 0, .slice none 0 0, .slice none 0 0]) hwy.blk rfl (by intro v hv; simp at hv; rcases hv with rfl | rfl <;> rfl)
    (conv => whnf)
    refine ⟨rfl, wx, hrx, ?_⟩
    have hnz := hwy.hb
    have hx := (hwy.chg No).then hCx fun i hi hm => by omega
    (try replace q1 := q1.ext hx)
    (try replace q2 := q2.ext hx)
    (try replace p1 := p1.ext hx)
    (try replace p2 := p2.ext hx)
    (try replace g1 := g1.ext hx)
    (try replace g2 := g2.ext hx)
    (try replace m1 := m1.ext hx)
    (try replace m2 := m2.ext hx)
    (try replace r7 := r7.ext hx)
    (try replace r8 := r8.ext hx)
    (try replace hb10 := hx.blk hb10 (fun h => h))
    (try replace hb12 := hx.blk hb12 (fun h => h))
    (try replace hb14 := hx.blk hb14 (fun h => h))
    (try replace hb16 := hx.blk hb16 (fun h => h))
    (try replace hb18 := hx.blk hb18 (fun h => h))
    (try replace xT := xT.ext hx)
    (try replace xW := xW.ext hx)
    (try replace xN := xN.ext hx)
    (try replace xE := xE.ext hx)
    replace hE := hE.trans hx
    (conv => whnf)
    refine condP_not (condP_no he ?_)
    (conv => whnf)
    refine (awake _ (hL0.ext hE)).call ?_
    rintro _ wz ⟨rfl, hEz⟩
    (conv => whnf)
    exact ⟨rfl, hE.trans hEz⟩
  subst hq
  have hq3 : Dg 3 q := qtxt_dg (by omega)
  rw [nextM_eq] at xN
  rw [emitM_eq] at xE
  (try replace q1 := q1.ext hx)
  (try replace q2 := q2.ext hx)
  (try replace p1 := p1.ext hx)
  (try replace p2 := p2.ext hx)
  (try replace g1 := g1.ext hx)
  (try replace g2 := g2.ext hx)
  (try replace m1 := m1.ext hx)
  (try replace m2 := m2.ext hx)
  (try replace r7 := r7.ext hx)
  (try replace r8 := r8.ext hx)
  (try replace hb10 := hx.blk hb10 (fun h => h))
  (try replace hb12 := hx.blk hb12 (fun h => h))
  (try replace hb14 := hx.blk hb14 (fun h => h))
  (try replace hb16 := hx.blk hb16 (fun h => h))
  (try replace hb18 := hx.blk hb18 (fun h => h))
  (try replace xT := xT.ext hx)
  (try replace xW := xW.ext hx)
  (try replace xN := xN.ext hx)
  (try replace xE := xE.ext hx)
  replace hE := hE.trans hx
  clear q1 q2 p1 p2 g1 g2 hb10 hb12 hb14
  obtain ⟨BT, aT, rfl, _, _⟩ := xT.shape
  obtain ⟨BW, aW, rfl, _, _⟩ := xW.shape
  obtain ⟨BN, aN, rfl, _, _⟩ := xN.shape
  obtain ⟨BE, aE, rfl, _, _⟩ := xE.shape
  (conv => whnf)
  intro b18 w19 hw19
  obtain ⟨w20, hr20, hb18, hC20⟩ := store_blk (P := Tryz.prog) (vs := [.slice BT _ aT, .slice BW _ aW, .slice BN _ aN, .slice BE _ aE]) hw19.blk rfl (by intro v hv; simp at hv; rcases hv with rfl | rfl | rfl | rfl <;> rfl)
  (conv => whnf)
  refine ⟨rfl, w20, hr20, ?_⟩
  have hn := hw19.hb
  have hx : Ext w18 w20 := (hw19.chg No).then hC20 fun i hi hm => by omega
  clear hw19 hr20 hC20 hn
  (try replace q1 := q1.ext hx)
  (try replace q2 := q2.ext hx)
  (try replace p1 := p1.ext hx)
  (try replace p2 := p2.ext hx)
  (try replace g1 := g1.ext hx)
  (try replace g2 := g2.ext hx)
  (try replace m1 := m1.ext hx)
  (try replace m2 := m2.ext hx)
  (try replace r7 := r7.ext hx)
  (try replace r8 := r8.ext hx)
  (try replace hb10 := hx.blk hb10 (fun h => h))
  (try replace hb12 := hx.blk hb12 (fun h => h))
  (try replace hb14 := hx.blk hb14 (fun h => h))
  (try replace hb16 := hx.blk hb16 (fun h => h))
  (try replace hb18 := hx.blk hb18 (fun h => h))
  (try replace xT := xT.ext hx)
  (try replace xW := xW.ext hx)
  (try replace xN := xN.ext hx)
  (try replace xE := xE.ext hx)
  replace hE := hE.trans hx
  (conv => whnf)
  refine condP_not (condP_yes rfl ?_)
  (conv => whnf)
  refine (hAdd q rfl hq0 (by omega) w20 hE).call ?_
  rintro _ w21 ⟨rfl, hx⟩
  (try replace q1 := q1.ext hx)
  (try replace q2 := q2.ext hx)
  (try replace p1 := p1.ext hx)
  (try replace p2 := p2.ext hx)
  (try replace g1 := g1.ext hx)
  (try replace g2 := g2.ext hx)
  (try replace m1 := m1.ext hx)
  (try replace m2 := m2.ext hx)
  (try replace r7 := r7.ext hx)
  (try replace r8 := r8.ext hx)
  (try replace hb10 := hx.blk hb10 (fun h => h))
  (try replace hb12 := hx.blk hb12 (fun h => h))
  (try replace hb14 := hx.blk hb14 (fun h => h))
  (try replace hb16 := hx.blk hb16 (fun h => h))
  (try replace hb18 := hx.blk hb18 (fun h => h))
  (try replace xT := xT.ext hx)
  (try replace xW := xW.ext hx)
  (try replace xN := xN.ext hx)
  (try replace xE := xE.ext hx)
  replace hE := hE.trans hx
  (conv => whnf)
  refine condP_not (condP_yes rfl ?_)
  (conv => whnf)
  refine ⟨_, rfl, cellsAt_blk hb16, ?_⟩
  (conv => whnf)
  refine (estimate (Old w11) B5 B6 _ d5 _ d6 (y1.map dbl) (y2.map dbl) (qtxt (q + q)) w21 (hL0.ext hE) m1 m2 hsm2.g1 hsm2.g2 hsm2.p1 hsm2.p2 (fun x hx => by have := hsm2.n1 x hx; omega) (fun x hx => by have := hsm2.n2 x hx; omega) (by have := qtxt_len _ ((dg_two hq3).short (by omega)); omega) (fun q' hq' => by obtain rfl := qtxt_inj hq'; exact dg_two hq3)).call ?_
  rintro _ w22 ⟨hx, ⟨e, he, rfl, hbad⟩ | ⟨q', vT, vW, vN, vE, hq', _, _, _, rfl, yT, yW, yN, yE⟩⟩
  · refine absurd ⟨q + q, rfl, ?_, by rw [tagsM_dbl]; exact hT40, by rw [wordsM_dbl]; exact hW500⟩ hbad
    exact Rat.add_nonneg hq0 hq0
  obtain rfl := qtxt_inj hq'
  rw [nextM_eq, rNq_dbl] at yN
  rw [emitM_eq, rEq_dbl] at yE
  rw [tagsM_dbl] at yT
  rw [wordsM_dbl] at yW
  (try replace q1 := q1.ext hx)
  (try replace q2 := q2.ext hx)
  (try replace p1 := p1.ext hx)
  (try replace p2 := p2.ext hx)
  (try replace g1 := g1.ext hx)
  (try replace g2 := g2.ext hx)
  (try replace m1 := m1.ext hx)
  (try replace m2 := m2.ext hx)
  (try replace r7 := r7.ext hx)
  (try replace r8 := r8.ext hx)
  (try replace hb10 := hx.blk hb10 (fun h => h))
  (try replace hb12 := hx.blk hb12 (fun h => h))
  (try replace hb14 := hx.blk hb14 (fun h => h))
  (try replace hb16 := hx.blk hb16 (fun h => h))
  (try replace hb18 := hx.blk hb18 (fun h => h))
  (try replace xT := xT.ext hx)
  (try replace xW := xW.ext hx)
  (try replace xN := xN.ext hx)
  (try replace xE := xE.ext hx)
  replace hE := hE.trans hx
  obtain ⟨CT, iT, rfl, _, _⟩ := yT.shape
  obtain ⟨CW, iW, rfl, _, _⟩ := yW.shape
  obtain ⟨CN, iN, rfl, _, _⟩ := yN.shape
  obtain ⟨CE, iE, rfl, _, _⟩ := yE.shape
  clear m1 m2 hb16
  (conv => whnf)
  intro b20 w23 hw23
  obtain ⟨w24, hr24, hb20, hC24⟩ := store_blk (P := Tryz.prog) (vs := [.slice CT _ iT, .slice CW _ iW, .slice CN _ iN, .slice CE _ iE]) hw23.blk rfl (by intro v hv; simp at hv; rcases hv with rfl | rfl | rfl | rfl <;> rfl)
  (conv => whnf)
  refine ⟨rfl, w24, hr24, ?_⟩
  have hn := hw23.hb
  have hx : Ext w22 w24 := (hw23.chg No).then hC24 fun i hi hm => by omega
  clear hw23 hr24 hC24 hn
  (try replace q1 := q1.ext hx)
  (try replace q2 := q2.ext hx)
  (try replace p1 := p1.ext hx)
  (try replace p2 := p2.ext hx)
  (try replace g1 := g1.ext hx)
  (try replace g2 := g2.ext hx)
  (try replace m1 := m1.ext hx)
  (try replace m2 := m2.ext hx)
  (try replace r7 := r7.ext hx)
  (try replace r8 := r8.ext hx)
  (try replace hb10 := hx.blk hb10 (fun h => h))
  (try replace hb12 := hx.blk hb12 (fun h => h))
  (try replace hb14 := hx.blk hb14 (fun h => h))
  (try replace hb16 := hx.blk hb16 (fun h => h))
  (try replace hb18 := hx.blk hb18 (fun h => h))
  (try replace xT := xT.ext hx)
  (try replace xW := xW.ext hx)
  (try replace xN := xN.ext hx)
  (try replace xE := xE.ext hx)
  replace hE := hE.trans hx
  replace yT := yT.ext hx
  replace yW := yW.ext hx
  replace yN := yN.ext hx
  replace yE := yE.ext hx
  (conv => whnf)
  refine condP_not (condP_yes rfl ?_)
  (conv => whnf)
  refine ⟨_, by rw [addr_add, cell_of_blk hb18]; rfl, ?_⟩
  (conv => whnf)
  refine ⟨_, by rw [addr_add, cell_of_blk hb20]; rfl, ?_⟩
  (conv => whnf)
  refine (sameNames _ _ _ _ _ _ _ _ _ _ xT yT).call ?_
  rintro _ w25 ⟨rfl, hx⟩
  replace yT := yT.ext hx
  replace yW := yW.ext hx
  replace yN := yN.ext hx
  replace yE := yE.ext hx
  (try replace hb20 := hx.blk hb20 (fun h => h))
  (try replace q1 := q1.ext hx)
  (try replace q2 := q2.ext hx)
  (try replace p1 := p1.ext hx)
  (try replace p2 := p2.ext hx)
  (try replace g1 := g1.ext hx)
  (try replace g2 := g2.ext hx)
  (try replace m1 := m1.ext hx)
  (try replace m2 := m2.ext hx)
  (try replace r7 := r7.ext hx)
  (try replace r8 := r8.ext hx)
  (try replace hb10 := hx.blk hb10 (fun h => h))
  (try replace hb12 := hx.blk hb12 (fun h => h))
  (try replace hb14 := hx.blk hb14 (fun h => h))
  (try replace hb16 := hx.blk hb16 (fun h => h))
  (try replace hb18 := hx.blk hb18 (fun h => h))
  (try replace xT := xT.ext hx)
  (try replace xW := xW.ext hx)
  (try replace xN := xN.ext hx)
  (try replace xE := xE.ext hx)
  replace hE := hE.trans hx
  (conv => whnf)
  refine ⟨_, by rw [addr_add, cell_of_blk hb18]; rfl, ?_⟩
  (conv => whnf)
  refine ⟨_, by rw [addr_add, cell_of_blk hb20]; rfl, ?_⟩
  (conv => whnf)
  refine (sameNames _ _ _ _ _ _ _ _ _ _ xW yW).call ?_
  rintro _ w26 ⟨rfl, hx⟩
  replace yT := yT.ext hx
  replace yW := yW.ext hx
  replace yN := yN.ext hx
  replace yE := yE.ext hx
  (try replace hb20 := hx.blk hb20 (fun h => h))
  (try replace q1 := q1.ext hx)
  (try replace q2 := q2.ext hx)
  (try replace p1 := p1.ext hx)
  (try replace p2 := p2.ext hx)
  (try replace g1 := g1.ext hx)
  (try replace g2 := g2.ext hx)
  (try replace m1 := m1.ext hx)
  (try replace m2 := m2.ext hx)
  (try replace r7 := r7.ext hx)
  (try replace r8 := r8.ext hx)
  (try replace hb10 := hx.blk hb10 (fun h => h))
  (try replace hb12 := hx.blk hb12 (fun h => h))
  (try replace hb14 := hx.blk hb14 (fun h => h))
  (try replace hb16 := hx.blk hb16 (fun h => h))
  (try replace hb18 := hx.blk hb18 (fun h => h))
  (try replace xT := xT.ext hx)
  (try replace xW := xW.ext hx)
  (try replace xN := xN.ext hx)
  (try replace xE := xE.ext hx)
  replace hE := hE.trans hx
  (conv => whnf)
  refine ⟨_, by rw [addr_add, cell_of_blk hb18]; rfl, ?_⟩
  (conv => whnf)
  refine ⟨_, by rw [addr_add, cell_of_blk hb20]; rfl, ?_⟩
  (conv => whnf)
  refine (sameRows _ _ _ _ _ _ _ _ _ _ xN yN).call ?_
  rintro _ w27 ⟨rfl, hx⟩
  replace yT := yT.ext hx
  replace yW := yW.ext hx
  replace yN := yN.ext hx
  replace yE := yE.ext hx
  (try replace hb20 := hx.blk hb20 (fun h => h))
  (try replace q1 := q1.ext hx)
  (try replace q2 := q2.ext hx)
  (try replace p1 := p1.ext hx)
  (try replace p2 := p2.ext hx)
  (try replace g1 := g1.ext hx)
  (try replace g2 := g2.ext hx)
  (try replace m1 := m1.ext hx)
  (try replace m2 := m2.ext hx)
  (try replace r7 := r7.ext hx)
  (try replace r8 := r8.ext hx)
  (try replace hb10 := hx.blk hb10 (fun h => h))
  (try replace hb12 := hx.blk hb12 (fun h => h))
  (try replace hb14 := hx.blk hb14 (fun h => h))
  (try replace hb16 := hx.blk hb16 (fun h => h))
  (try replace hb18 := hx.blk hb18 (fun h => h))
  (try replace xT := xT.ext hx)
  (try replace xW := xW.ext hx)
  (try replace xN := xN.ext hx)
  (try replace xE := xE.ext hx)
  replace hE := hE.trans hx
  (conv => whnf)
  refine ⟨_, by rw [addr_add, cell_of_blk hb18]; rfl, ?_⟩
  (conv => whnf)
  refine ⟨_, by rw [addr_add, cell_of_blk hb20]; rfl, ?_⟩
  (conv => whnf)
  refine (sameRows _ _ _ _ _ _ _ _ _ _ xE yE).call ?_
  rintro _ w28 ⟨rfl, hx⟩
  replace yT := yT.ext hx
  replace yW := yW.ext hx
  replace yN := yN.ext hx
  replace yE := yE.ext hx
  (try replace hb20 := hx.blk hb20 (fun h => h))
  (try replace q1 := q1.ext hx)
  (try replace q2 := q2.ext hx)
  (try replace p1 := p1.ext hx)
  (try replace p2 := p2.ext hx)
  (try replace g1 := g1.ext hx)
  (try replace g2 := g2.ext hx)
  (try replace m1 := m1.ext hx)
  (try replace m2 := m2.ext hx)
  (try replace r7 := r7.ext hx)
  (try replace r8 := r8.ext hx)
  (try replace hb10 := hx.blk hb10 (fun h => h))
  (try replace hb12 := hx.blk hb12 (fun h => h))
  (try replace hb14 := hx.blk hb14 (fun h => h))
  (try replace hb16 := hx.blk hb16 (fun h => h))
  (try replace hb18 := hx.blk hb18 (fun h => h))
  (try replace xT := xT.ext hx)
  (try replace xW := xW.ext hx)
  (try replace xN := xN.ext hx)
  (try replace xE := xE.ext hx)
  replace hE := hE.trans hx
  (conv => whnf)
  refine ⟨_, rfl, cellsAt_blk hb18, ?_⟩
  (conv => whnf)
  have hMD := modD_of hsm (hq3.mono (show 3 ≤ 4 by omega)) hT40 hW500
  have hwn : words.length ≤ 3 := by omega
  refine (tag (New w17) _ w28 _ _ _ _ _ _ _ _ _ _ _ words (hL0.ext hE) xT xW xN xE hMD (by omega) (by omega) (hws.ext hE) hwl hwn).call ?_
  rintro _ w29 ⟨u1, rfl, hU1⟩
  have hx := hU1.ext
  replace yT := yT.ext hx
  replace yW := yW.ext hx
  replace yN := yN.ext hx
  replace yE := yE.ext hx
  (try replace hb20 := hx.blk hb20 (fun h => h))
  (try replace q1 := q1.ext hx)
  (try replace q2 := q2.ext hx)
  (try replace p1 := p1.ext hx)
  (try replace p2 := p2.ext hx)
  (try replace g1 := g1.ext hx)
  (try replace g2 := g2.ext hx)
  (try replace m1 := m1.ext hx)
  (try replace m2 := m2.ext hx)
  (try replace r7 := r7.ext hx)
  (try replace r8 := r8.ext hx)
  (try replace hb10 := hx.blk hb10 (fun h => h))
  (try replace hb12 := hx.blk hb12 (fun h => h))
  (try replace hb14 := hx.blk hb14 (fun h => h))
  (try replace hb16 := hx.blk hb16 (fun h => h))
  (try replace hb18 := hx.blk hb18 (fun h => h))
  (try replace xT := xT.ext hx)
  (try replace xW := xW.ext hx)
  (try replace xN := xN.ext hx)
  (try replace xE := xE.ext hx)
  replace hE := hE.trans hx
  obtain ⟨D1, f1, rfl, _, _⟩ := hU1.shape
  (conv => whnf)
  refine ⟨_, rfl, cellsAt_blk hb20, ?_⟩
  (conv => whnf)
  refine (tag (New w21) _ w29 _ _ _ _ _ _ _ _ _ _ _ words (hL0.ext hE) yT yW yN yE hMD (by omega) (by omega) (hws.ext hE) hwl hwn).call ?_
  rintro _ w30 ⟨u2, rfl, hU2⟩
  have hx := hU2.ext
  replace yT := yT.ext hx
  replace yW := yW.ext hx
  replace yN := yN.ext hx
  replace yE := yE.ext hx
  (try replace hb20 := hx.blk hb20 (fun h => h))
  (try replace q1 := q1.ext hx)
  (try replace q2 := q2.ext hx)
  (try replace p1 := p1.ext hx)
  (try replace p2 := p2.ext hx)
  (try replace g1 := g1.ext hx)
  (try replace g2 := g2.ext hx)
  (try replace m1 := m1.ext hx)
  (try replace m2 := m2.ext hx)
  (try replace r7 := r7.ext hx)
  (try replace r8 := r8.ext hx)
  (try replace hb10 := hx.blk hb10 (fun h => h))
  (try replace hb12 := hx.blk hb12 (fun h => h))
  (try replace hb14 := hx.blk hb14 (fun h => h))
  (try replace hb16 := hx.blk hb16 (fun h => h))
  (try replace hb18 := hx.blk hb18 (fun h => h))
  (try replace xT := xT.ext hx)
  (try replace xW := xW.ext hx)
  (try replace xN := xN.ext hx)
  (try replace xE := xE.ext hx)
  replace hE := hE.trans hx
  obtain ⟨D2, f2, rfl, _, _⟩ := hU2.shape
  (conv => whnf)
  refine condP_yes rfl ?_
  (conv => whnf)
  refine condP_str (fun _ => ?_) (fun h => absurd rfl h)
  (conv => whnf)
  refine (sameNames _ _ _ _ _ _ _ _ _ _ (hU1.up hU2.ext).read hU2.read).call ?_
  rintro _ w31 ⟨rfl, hx⟩
  (try replace q1 := q1.ext hx)
  (try replace q2 := q2.ext hx)
  (try replace p1 := p1.ext hx)
  (try replace p2 := p2.ext hx)
  (try replace g1 := g1.ext hx)
  (try replace g2 := g2.ext hx)
  (try replace m1 := m1.ext hx)
  (try replace m2 := m2.ext hx)
  (try replace r7 := r7.ext hx)
  (try replace r8 := r8.ext hx)
  (try replace hb10 := hx.blk hb10 (fun h => h))
  (try replace hb12 := hx.blk hb12 (fun h => h))
  (try replace hb14 := hx.blk hb14 (fun h => h))
  (try replace hb16 := hx.blk hb16 (fun h => h))
  (try replace hb18 := hx.blk hb18 (fun h => h))
  (try replace xT := xT.ext hx)
  (try replace xW := xW.ext hx)
  (try replace xN := xN.ext hx)
  (try replace xE := xE.ext hx)
  replace hE := hE.trans hx
  (conv => whnf)
  refine (awake _ (hL0.ext hE)).call ?_
  rintro _ wz ⟨rfl, hEz⟩
  (conv => whnf)
  exact ⟨rfl, hE.trans hEz⟩
end Go.Proofs.YtfeegacmmfgjfaaGreatDoorX

/-!  Plain: digits. -/
set_option linter.unusedVariables false
namespace Go.Proofs.YtfeegacmmfgjfaaGreatDoorM
def valB10 : List Nat → Nat
  | [] => 0
  | x :: r => x + 10 * valB10 r
theorem tlen_zero10 {xs : List Nat} (h : tlen xs = 0) : valB10 xs = 0 := by
  induction xs with
  | nil => rfl
  | cons x r ih =>
    simp only [tlen] at h
    split at h
    · rename_i h0
      split at h
      · rename_i hx; simp [valB10, hx, ih h0]
      · omega
    · omega
theorem valB_append10 (a b : List Nat) : valB10 (a ++ b) = valB10 a + 10 ^ a.length * valB10 b := by
  induction a with
  | nil => simp [valB10]
  | cons x r ih => simp only [List.cons_append, valB10, ih, List.length_cons, Nat.pow_succ, Nat.mul_add]; rw [Nat.mul_comm (10 ^ r.length) 10, Nat.mul_assoc]; omega
theorem valB_lt10 {xs : List Nat} (h : ∀ x ∈ xs, x < 10) : valB10 xs < 10 ^ xs.length := by
  induction xs with
  | nil => simp [valB10]
  | cons x r ih =>
    have hx := h x (by simp)
    have := ih fun y hy => h y (by simp [hy])
    simp only [valB10, List.length_cons, Nat.pow_succ]
    omega
theorem valB_split10 (xs : List Nat) {k : Nat} (hk : k ≤ xs.length) : valB10 xs = valB10 (xs.take k) + 10 ^ k * valB10 (xs.drop k) := by
  have h := valB_append10 (xs.take k) (xs.drop k)
  rw [List.take_append_drop, List.length_take, Nat.min_eq_left hk] at h
  exact h
theorem take_lt10 {xs : List Nat} (h : ∀ x ∈ xs, x < 10) (k : Nat) (hk : k ≤ xs.length) : valB10 (xs.take k) < 10 ^ k := by
  have := valB_lt10 (xs := xs.take k) (fun x hx => h x (List.mem_of_mem_take hx))
  rwa [List.length_take, Nat.min_eq_left hk] at this
theorem cmp_at10 {xs ys : List Nat} (hx : ∀ x ∈ xs, x < 10) {k : Nat} (hl : xs.length = ys.length) (hk : k < xs.length) (he : ∀ j, k < j → j < xs.length → xs.getD j 0 = ys.getD j 0) (hlt : xs.getD k 0 < ys.getD k 0) : valB10 xs < valB10 ys := by
  have h1 := valB_split10 xs (k := k) (by omega)
  have h2 := valB_split10 ys (k := k) (by omega)
  have h3 := take_lt10 hx k (by omega)
  have hd : xs.drop (k + 1) = ys.drop (k + 1) := by
    apply List.ext_getElem?
    intro j
    rw [List.getElem?_drop, List.getElem?_drop]
    by_cases hj : k + 1 + j < xs.length
    · have := he (k + 1 + j) (by omega) hj
      rw [List.getD_eq_getElem?_getD, List.getD_eq_getElem?_getD, List.getElem?_eq_getElem hj, List.getElem?_eq_getElem (show k + 1 + j < ys.length by omega)] at this
      rw [List.getElem?_eq_getElem hj, List.getElem?_eq_getElem (show k + 1 + j < ys.length by omega)]
      simpa using this
    · rw [List.getElem?_eq_none (by omega), List.getElem?_eq_none (by omega)]
  rw [List.drop_eq_getElem_cons hk] at h1
  rw [List.drop_eq_getElem_cons (show k < ys.length by omega), ← hd] at h2
  rw [List.getD_eq_getElem?_getD, List.getD_eq_getElem?_getD, List.getElem?_eq_getElem hk, List.getElem?_eq_getElem (show k < ys.length by omega)] at hlt
  simp only [Option.getD_some] at hlt
  simp only [valB10] at h1 h2
  have h4 : 10 ^ k * (xs[k] + 1) ≤ 10 ^ k * (ys[k]'(by omega)) := Nat.mul_le_mul_left _ hlt
  rw [Nat.mul_add] at h1 h2 h4
  omega
theorem getD_lt10 {xs : List Nat} (h : ∀ x ∈ xs, x < 10) (i : Nat) : xs.getD i 0 < 10 := by
  rw [List.getD_eq_getElem?_getD]
  cases hx : xs[i]? with
  | none => simp
  | some x => exact h x (List.mem_of_getElem? hx)
def lowB10 (xs : List Nat) : Nat → Nat
  | 0 => 0
  | i + 1 => lowB10 xs i + 10 ^ i * xs.getD i 0
theorem lowB_take10 (xs : List Nat) (i : Nat) (hi : i ≤ xs.length) : lowB10 xs i = valB10 (xs.take i) := by
  induction i with
  | zero => rfl
  | succ i ih =>
    rw [lowB10, ih (by omega), List.take_add_one, List.getElem?_eq_getElem (show i < xs.length by omega), valB_append10, List.length_take, Nat.min_eq_left (by omega), List.getD_eq_getElem?_getD, List.getElem?_eq_getElem (show i < xs.length by omega)]
    simp only [Option.toList_some, valB10, Nat.mul_zero, Nat.add_zero, Option.getD_some]
theorem lowB_all10 (xs : List Nat) (i : Nat) (hi : xs.length ≤ i) : lowB10 xs i = valB10 xs := by
  obtain ⟨k, rfl⟩ : ∃ k, i = xs.length + k := ⟨i - xs.length, by omega⟩
  induction k with
  | zero => rw [Nat.add_zero, lowB_take10 xs _ (Nat.le_refl _), List.take_length]
  | succ k ih =>
    rw [← Nat.add_assoc, lowB10, ih (by omega), List.getD_eq_getElem?_getD, List.getElem?_eq_none (by omega), Option.getD_none, Nat.mul_zero, Nat.add_zero]
def gPlus10 (a b c : Nat) : Nat × Nat := ((a + b + c) % 10, (a + b + c) / 10)
def gMinus10 (a b c : Nat) : Nat × Nat := ((a + 10 - b - c) % 10, 1 - (a + 10 - b - c) / 10)
theorem gPlus_ok10 {a b c : Nat} (ha : a < 10) (hb : b < 10) (hc : c ≤ 1) : (gPlus10 a b c).1 < 10 ∧ (gPlus10 a b c).2 ≤ 1 ∧ (gPlus10 a b c).1 + 10 * (gPlus10 a b c).2 = a + b + c := by
  unfold gPlus10; simp only; omega
theorem gMinus_ok10 {a b c : Nat} (ha : a < 10) (hb : b < 10) (hc : c ≤ 1) : (gMinus10 a b c).1 < 10 ∧ (gMinus10 a b c).2 ≤ 1 ∧ (gMinus10 a b c).1 + b + c = a + 10 * (gMinus10 a b c).2 := by
  unfold gMinus10; simp only; omega
theorem each_all10 {g : Nat → Nat → Nat → Nat × Nat} {xs ys : List Nat} {good : Nat → Prop} (hx : ∀ x ∈ xs, x < 10) (hy : ∀ x ∈ ys, x < 10) (h0 : good 0) (hg : ∀ a b c, a < 10 → b < 10 → good c → (g a b c).1 < 10 ∧ good (g a b c).2) (i : Nat) :
    (∀ x ∈ (eachS g xs ys i).1, x < 10) ∧ good (eachS g xs ys i).2 := by
  induction i with
  | zero => exact ⟨fun x h => by simp [eachS] at h, h0⟩
  | succ i ih =>
    have h := hg (xs.getD i 0) (ys.getD i 0) _ (getD_lt10 hx i) (getD_lt10 hy i) ih.2
    rw [eachS_succ]
    refine ⟨fun x hm => ?_, h.2⟩
    rcases List.mem_append.1 hm with hm | hm
    · exact ih.1 x hm
    · simp at hm; subst hm; exact h.1
theorem snocB10 (xs : List Nat) (x : Nat) : valB10 (xs ++ [x]) = valB10 xs + 10 ^ xs.length * x := by rw [valB_append10]; simp only [valB10, Nat.mul_zero, Nat.add_zero]
theorem plus_run10 {xs ys : List Nat} (hx : ∀ x ∈ xs, x < 10) (hy : ∀ x ∈ ys, x < 10) (i : Nat) : valB10 (eachS gPlus10 xs ys i).1 + 10 ^ i * (eachS gPlus10 xs ys i).2 = lowB10 xs i + lowB10 ys i := by
  induction i with
  | zero => rfl
  | succ i ih =>
    have hA := each_all10 (good := fun c => c ≤ 1) hx hy (Nat.zero_le _) (fun a b c ha hb hc => ⟨(gPlus_ok10 ha hb hc).1, (gPlus_ok10 ha hb hc).2.1⟩) i
    have h := (gPlus_ok10 (getD_lt10 hx i) (getD_lt10 hy i) hA.2).2.2
    rw [eachS_succ]
    simp only [snocB10, eachS_len, lowB10]
    rw [Nat.pow_succ, Nat.mul_assoc]
    have h2 : 10 ^ i * ((gPlus10 (xs.getD i 0) (ys.getD i 0) (eachS gPlus10 xs ys i).2).1 + 10 * (gPlus10 (xs.getD i 0) (ys.getD i 0) (eachS gPlus10 xs ys i).2).2) = 10 ^ i * (xs.getD i 0 + ys.getD i 0 + (eachS gPlus10 xs ys i).2) := by rw [h]
    rw [Nat.mul_add, Nat.mul_add, Nat.mul_add] at h2
    omega
theorem minus_run10 {xs ys : List Nat} (hx : ∀ x ∈ xs, x < 10) (hy : ∀ x ∈ ys, x < 10) (i : Nat) : valB10 (eachS gMinus10 xs ys i).1 + lowB10 ys i = lowB10 xs i + 10 ^ i * (eachS gMinus10 xs ys i).2 := by
  induction i with
  | zero => rfl
  | succ i ih =>
    have hA := each_all10 (good := fun c => c ≤ 1) hx hy (Nat.zero_le _) (fun a b c ha hb hc => ⟨(gMinus_ok10 ha hb hc).1, (gMinus_ok10 ha hb hc).2.1⟩) i
    have h := (gMinus_ok10 (getD_lt10 hx i) (getD_lt10 hy i) hA.2).2.2
    rw [eachS_succ]
    simp only [snocB10, eachS_len, lowB10]
    rw [Nat.pow_succ, Nat.mul_assoc]
    have h2 : 10 ^ i * ((gMinus10 (xs.getD i 0) (ys.getD i 0) (eachS gMinus10 xs ys i).2).1 + ys.getD i 0 + (eachS gMinus10 xs ys i).2) = 10 ^ i * (xs.getD i 0 + 10 * (gMinus10 (xs.getD i 0) (ys.getD i 0) (eachS gMinus10 xs ys i).2).2) := by rw [h]
    rw [Nat.mul_add, Nat.mul_add, Nat.mul_add] at h2
    omega
theorem low_lt10 {xs : List Nat} (h : ∀ x ∈ xs, x < 10) (i : Nat) : lowB10 xs i < 10 ^ i := by
  induction i with
  | zero => simp [lowB10]
  | succ i ih =>
    have := getD_lt10 h i
    rw [lowB10, Nat.pow_succ]
    have h2 : 10 ^ i * xs.getD i 0 ≤ 10 ^ i * 9 := Nat.mul_le_mul_left _ (by omega)
    generalize 10 ^ i * xs.getD i 0 = q at *
    generalize 10 ^ i = p at *
    omega
theorem lowB_congr10 {xs ys : List Nat} : ∀ {i : Nat}, (∀ j, j < i → xs.getD j 0 = ys.getD j 0) → lowB10 xs i = lowB10 ys i
  | 0, _ => rfl
  | i + 1, h => by rw [lowB10, lowB10, lowB_congr10 fun j hj => h j (by omega), h i (by omega)]
theorem low_set10 {zs : List Nat} {at_ i x : Nat} (h : at_ + i < zs.length) : lowB10 ((zs.set (at_ + i) x).drop at_) (i + 1) = lowB10 (zs.drop at_) i + 10 ^ i * x := by
  rw [lowB10, getD_drop, getD_set_same _ _ h]
  congr 1
  exact lowB_congr10 fun j hj => by rw [getD_drop, getD_drop, getD_set_other _ _ (by omega)]
theorem set_all10 {zs : List Nat} {k x : Nat} (h : ∀ z ∈ zs, z < 10) (hx : x < 10) : ∀ z ∈ zs.set k x, z < 10 := by
  intro z hz
  rcases List.mem_or_eq_of_mem_set hz with hz | rfl
  · exact h z hz
  · exact hx
theorem valB_low10 (zs : List Nat) {k : Nat} (hk : k ≤ zs.length) : valB10 zs = lowB10 zs k + 10 ^ k * valB10 (zs.drop k) := by
  rw [valB_split10 zs hk, lowB_take10 zs k hk]
theorem seg_val10 (zs : List Nat) {o k : Nat} (h : o + k ≤ zs.length) : valB10 zs = lowB10 zs o + 10 ^ o * (lowB10 (zs.drop o) k + 10 ^ k * valB10 (zs.drop (o + k))) := by
  rw [valB_low10 zs (k := o) (by omega), valB_low10 (zs.drop o) (k := k) (by rw [List.length_drop]; omega), List.drop_drop]
theorem mul_step10 {L L0 Y P l x yk c : Nat} (ih : L + P * c = L0 + x * Y) (hl : l < 10) (hx : x < 10) (hy : yk < 10) (hc : c < 10) :
    (L + P * ((l + c + x * yk) % 10)) + P * 10 * ((l + c + x * yk) / 10) = (L0 + P * l) + x * (Y + P * yk) ∧ (l + c + x * yk) / 10 < 10 ∧ l + c + x * yk ≤ 99 := by
  have hm : x * yk ≤ 9 * 9 := Nat.mul_le_mul (by omega) (by omega)
  have e : x * (Y + P * yk) = x * Y + P * (x * yk) := by rw [Nat.mul_add, Nat.mul_left_comm]
  rw [e]
  generalize x * yk = m at *
  refine ⟨?_, by omega, by omega⟩
  have key : (l + c + m) % 10 + 10 * ((l + c + m) / 10) = l + c + m := Nat.mod_add_div _ _
  generalize (l + c + m) % 10 = s at *
  generalize (l + c + m) / 10 = t at *
  have k2 : P * (s + 10 * t) = P * (l + c + m) := by rw [key]
  rw [Nat.mul_add, Nat.mul_add, Nat.mul_add, ← Nat.mul_assoc] at k2
  omega
theorem mul_row10 {zs ls : List Nat} {i n x Y c V : Nat} (hzs : ∀ z ∈ zs, z < 10) (hls : ∀ z ∈ ls, z < 10) (hlen : ls.length = zs.length) (hi : i + n + 1 ≤ zs.length) (hoth : ∀ j, j < i ∨ i + n + 1 ≤ j → ls.getD j 0 = zs.getD j 0)
    (hval : lowB10 (ls.drop i) (n + 1) + 10 ^ (n + 1) * c = lowB10 (zs.drop i) (n + 1) + x * Y) (hx : x < 10) (hY : Y < 10 ^ n) (hV : valB10 zs = V) (hVlt : V < 10 ^ (i + n)) : valB10 ls = V + 10 ^ i * (x * Y) := by
  have h1 := seg_val10 zs (o := i) (k := n + 1) (by omega)
  have h2 := seg_val10 ls (o := i) (k := n + 1) (by omega)
  have e1 : lowB10 ls i = lowB10 zs i := lowB_congr10 fun j hj => hoth j (.inl hj)
  have e2 : ls.drop (i + (n + 1)) = zs.drop (i + (n + 1)) := drop_same hlen fun j hj => hoth j (.inr (by omega))
  rw [e1, e2] at h2
  -- the part of the old row is short
  have h3 : lowB10 (zs.drop i) (n + 1) < 10 ^ n := by
    have g : 10 ^ i * lowB10 (zs.drop i) (n + 1) < 10 ^ i * 10 ^ n := by
      rw [← Nat.pow_add]
      rw [Nat.mul_add] at h1
      omega
    exact Nat.lt_of_mul_lt_mul_left g
  have h4 : x * Y ≤ 9 * 10 ^ n := Nat.mul_le_mul (by omega) (by omega)
  have hc : c = 0 := by
    rcases Nat.eq_zero_or_pos c with h | h
    · exact h
    · exfalso
      have g : 10 ^ (n + 1) * 1 ≤ 10 ^ (n + 1) * c := Nat.mul_le_mul_left _ h
      rw [Nat.pow_succ] at g hval
      generalize 10 ^ n * 10 * c = gc at *
      omega
  rw [hc, Nat.mul_zero, Nat.add_zero] at hval
  rw [h2, hval, ← hV, h1, Nat.mul_add, Nat.mul_add, Nat.mul_add]
  omega
/-! ## The digits of a string, the lowest one first -/
def dgs (a : List UInt8) : List Nat := a.reverse.map dig
theorem dgs_snoc (a : List UInt8) (c : UInt8) : dgs (a ++ [c]) = dig c :: dgs a := by simp [dgs]
theorem dgs_len (a : List UInt8) : (dgs a).length = a.length := by simp [dgs]
theorem dgs_val (a : List UInt8) : valB10 (dgs a) = dval a := by
  have : ∀ l : List UInt8, valB10 (dgs l.reverse) = dval l.reverse := by
    intro l
    induction l with
    | nil => rfl
    | cons c r ih =>
      rw [List.reverse_cons, dgs_snoc, dval_snoc, valB10, ih]; omega
  have h2 := this a.reverse
  rwa [List.reverse_reverse] at h2
theorem dig_lt {c : UInt8} (h : isDig c = true) : dig c < 10 := by
  unfold isDig at h; unfold dig
  simp only [Bool.and_eq_true, decide_eq_true_eq] at h
  omega
theorem dgs_lt {a : List UInt8} (h : ∀ c ∈ a, isDig c = true) : ∀ x ∈ dgs a, x < 10 := by
  intro x hx
  obtain ⟨c, hc, rfl⟩ := List.mem_map.1 hx
  exact dig_lt (h c (List.mem_reverse.1 hc))
def chr (d : Nat) : UInt8 := UInt8.ofNat (48 + d)
theorem dig_chr {d : Nat} (h : d < 10) : dig (chr d) = d ∧ isDig (chr d) = true ∧ (chr d).toNat = 48 + d := by
  have h1 : (chr d).toNat = 48 + d := by
    unfold chr
    rw [UInt8.toNat_ofNat_of_lt']
    show 48 + d < 256
    omega
  refine ⟨by unfold dig; omega, ?_, h1⟩
  unfold isDig
  rw [decide_eq_true (by omega), decide_eq_true (by omega)]; rfl
theorem dgs_chr {l : List Nat} (h : ∀ x ∈ l, x < 10) : dgs (l.reverse.map chr) = l := by
  unfold dgs
  rw [← List.map_reverse, List.reverse_reverse, List.map_map]
  conv => rhs; rw [← List.map_id l]
  exact List.map_congr_left fun x hx => (dig_chr (h x hx)).1
/-- The text of digits. -/
theorem txt_dd {l : List Nat} {n : Nat} (h : ∀ x ∈ l, x < 10) (hn : n ≤ l.length) (h1 : 1 ≤ n) (hz : ∀ j, n ≤ j → j < l.length → l.getD j 0 = 0) (hl : n = 1 ∨ l.getD (n - 1) 0 ≠ 0) : (l.take n).reverse.map chr = dd (valB10 l) := by
  have ht : ∀ x ∈ l.take n, x < 10 := fun x hx => h x (List.mem_of_mem_take hx)
  have hlen : ((l.take n).reverse.map chr).length = n := by simp; omega
  have hd : ∀ c ∈ (l.take n).reverse.map chr, isDig c = true := fun c hc => by
    obtain ⟨x, hx, rfl⟩ := List.mem_map.1 hc
    exact (dig_chr (ht x (List.mem_reverse.1 hx))).2.1
  have hv : dval ((l.take n).reverse.map chr) = valB10 l := by
    rw [← dgs_val, dgs_chr ht, valB_split10 l hn]
    have : valB10 (l.drop n) = 0 := by
      refine tlen_zero10 (tlen_eq (m := 0) (Nat.zero_le _) (fun j _ hj => ?_) (.inl rfl))
      rw [List.length_drop] at hj
      have := hz (n + j) (by omega) (by omega)
      rw [List.getD_eq_getElem?_getD] at this ⊢
      rw [List.getElem?_drop]; exact this
    rw [this]; omega
  rw [← hv]
  obtain ⟨m, rfl⟩ : ∃ m, n = m + 1 := ⟨n - 1, by omega⟩
  refine (dd_of_digits m _ hlen hd fun hgt => ?_).symm
  rcases hl with hl | hl
  · omega
  · have e : ((l.take (m + 1)).reverse.map chr).getD 0 0 = chr (l.getD m 0) := by
      rw [List.getD_eq_getElem?_getD, List.getElem?_map, List.getElem?_reverse (by simp; omega)]
      have e2 : (l.take (m + 1)).length - 1 - 0 = m := by simp; omega
      rw [e2, List.getElem?_take_of_lt (by omega), List.getD_eq_getElem?_getD, List.getElem?_eq_getElem (by omega)]
      rfl
    rw [e, (dig_chr (getD_lt10 h m)).2.2]
    have : l.getD m 0 ≠ 0 := hl
    omega
theorem dgs_get {a : List UInt8} {i : Nat} (hi : i < a.length) : (dgs a).getD (a.length - 1 - i) 0 = dig (a.getD i 0) := by
  unfold dgs
  rw [List.getD_eq_getElem?_getD, List.getElem?_map, List.getElem?_reverse (by omega), show a.length - 1 - (a.length - 1 - i) = i by omega, List.getD_eq_getElem?_getD, List.getElem?_eq_getElem hi]
  rfl
theorem cmp_dig {a b : List UInt8} (ha : ∀ c ∈ a, isDig c = true) (hb : ∀ c ∈ b, isDig c = true) (hl : a.length = b.length) {i : Nat} (hi : i < a.length) (he : ∀ j, j < i → a.getD j 0 = b.getD j 0) (hlt : (a.getD i 0).toNat < (b.getD i 0).toNat) : dval a < dval b := by
  rw [← dgs_val, ← dgs_val]
  have h1 := dig_range ha (j := i) hi
  have h2 := dig_range hb (j := i) (by omega)
  refine cmp_at10 (dgs_lt ha) (k := a.length - 1 - i) (by rw [dgs_len, dgs_len, hl]) (by rw [dgs_len]; omega) (fun j hj hjl => ?_) ?_
  · rw [dgs_len] at hjl
    have e1 := dgs_get (a := a) (i := a.length - 1 - j) (by omega)
    have e2 := dgs_get (a := b) (i := a.length - 1 - j) (by omega)
    rw [show a.length - 1 - (a.length - 1 - j) = j by omega] at e1
    rw [← hl, show a.length - 1 - (a.length - 1 - j) = j by omega] at e2
    rw [e1, e2, he _ (by omega)]
  · rw [dgs_get hi, show a.length - 1 - i = b.length - 1 - i by omega, dgs_get (show i < b.length by omega)]
    omega
theorem ext_getD {a b : List UInt8} (hl : a.length = b.length) (h : ∀ j, j < a.length → a.getD j 0 = b.getD j 0) : a = b := by
  apply List.ext_getElem hl
  intro i h1 h2
  have := h i h1
  rw [List.getD_eq_getElem?_getD, List.getD_eq_getElem?_getD, List.getElem?_eq_getElem h1, List.getElem?_eq_getElem h2] at this
  exact this
theorem minus_all {xs ys : List Nat} (hx : ∀ x ∈ xs, x < 10) (hy : ∀ x ∈ ys, x < 10) (hl : ys.length ≤ xs.length) (hle : valB10 ys ≤ valB10 xs) : valB10 (eachS gMinus10 xs ys xs.length).1 = valB10 xs - valB10 ys := by
  have h1 := minus_run10 hx hy xs.length
  rw [lowB_all10 xs _ (Nat.le_refl _), lowB_all10 ys _ hl] at h1
  have h2 := (each_all10 (g := gMinus10) (good := fun c => c ≤ 1) hx hy (by decide) (fun a b c ha hb hc => ⟨(gMinus_ok10 ha hb hc).1, (gMinus_ok10 ha hb hc).2.1⟩) xs.length)
  have h3 := valB_lt10 h2.1
  rw [eachS_len] at h3
  have hc : (eachS gMinus10 xs ys xs.length).2 = 0 ∨ (eachS gMinus10 xs ys xs.length).2 = 1 := by have := h2.2; omega
  rcases hc with hc | hc
  · rw [hc] at h1; omega
  · rw [hc] at h1; omega
theorem plus_all {xs ys : List Nat} (hx : ∀ x ∈ xs, x < 10) (hy : ∀ x ∈ ys, x < 10) : valB10 (eachS gPlus10 xs ys (max xs.length ys.length + 1)).1 = valB10 xs + valB10 ys := by
  have h1 := plus_run10 hx hy (max xs.length ys.length + 1)
  rw [lowB_all10 xs _ (by omega), lowB_all10 ys _ (by omega)] at h1
  have h2 := valB_lt10 hx
  have h3 := valB_lt10 hy
  have h4 : 10 ^ xs.length ≤ 10 ^ max xs.length ys.length := Nat.pow_le_pow_right (by decide) (by omega)
  have h5 : 10 ^ ys.length ≤ 10 ^ max xs.length ys.length := Nat.pow_le_pow_right (by decide) (by omega)
  rw [Nat.pow_succ] at h1
  generalize 10 ^ max xs.length ys.length = P at *
  generalize (eachS gPlus10 xs ys (max xs.length ys.length + 1)).2 = c at *
  rcases Nat.eq_zero_or_pos c with h | h
  · subst h; omega
  · have : P * 10 * 1 ≤ P * 10 * c := Nat.mul_le_mul_left _ h
    omega
theorem dd_dig1 {c : UInt8} (h : isDig c = true) : dd (dig c) = [c] := by
  have h1 := dig_lt h
  have h2 : 48 ≤ c.toNat := by unfold isDig at h; simp at h; exact h.1
  rw [dd_small h1]
  have : UInt8.ofNat (48 + dig c) = c := by
    apply UInt8.toNat_inj.1
    have := (dig_chr h1).2.2
    unfold chr at this
    rw [this]; unfold dig; omega
  rw [this]
theorem dd_next {r : Nat} {c : UInt8} (h : isDig c = true) (hr : 0 < r) : dd (10 * r + dig c) = dd r ++ [c] := by
  have h1 := dig_lt h
  have h2 : 48 ≤ c.toNat := by unfold isDig at h; simp at h; exact h.1
  have : UInt8.ofNat (48 + dig c) = c := by
    apply UInt8.toNat_inj.1
    have := (dig_chr h1).2.2
    unfold chr at this
    rw [this]; unfold dig; omega
  rw [dd_big (by omega), show (10 * r + dig c) / 10 = r by omega, show (10 * r + dig c) % 10 = dig c by omega, this]
theorem div_next {P y r d n R' D' : Nat} (hy : 0 < y) (hP : r = P % y) (hR : R' + D' * y = 10 * r + d) (hlt : R' < y) (hn : n = 10 * P + d) : 10 * (P / y) + D' = n / y ∧ R' = n % y := by
  have h1 := Nat.div_add_mod P y
  rw [← hP] at h1
  have h2 : n = R' + y * (10 * (P / y) + D') := by
    rw [hn, Nat.mul_add, Nat.mul_comm y D', Nat.mul_left_comm y 10]
    omega
  rw [h2]
  refine ⟨?_, ?_⟩
  · rw [Nat.add_mul_div_left _ _ hy, Nat.div_eq_of_lt hlt]; omega
  · rw [Nat.add_mul_mod_self_left, Nat.mod_eq_of_lt hlt]
theorem take_getD {a : List UInt8} {i : Nat} (hi : i < a.length) : a.take (i + 1) = a.take i ++ [a.getD i 0] := by
  rw [List.take_add_one, List.getElem?_eq_getElem hi, List.getD_eq_getElem?_getD, List.getElem?_eq_getElem hi]; rfl
theorem dval_zeros {a : List UInt8} : ∀ {k : Nat}, k ≤ a.length → (∀ j, j < k → (a.getD j 0).toNat = 48) → dval (a.drop k) = dval a
  | 0, _, _ => by rw [List.drop_zero]
  | k + 1, hk, h => by
    have h1 := dval_zeros (a := a) (k := k) (by omega) (fun j hj => h j (by omega))
    rw [← h1, List.drop_eq_getElem_cons (show k < a.length by omega)]
    have h2 := h k (by omega)
    rw [List.getD_eq_getElem?_getD, List.getElem?_eq_getElem (show k < a.length by omega)] at h2
    have h3 : dig a[k] = 0 := by unfold dig; have : a[k].toNat = 48 := h2; omega
    have h4 : dval (a[k] :: a.drop (k + 1)) = dval ([a[k]] ++ a.drop (k + 1)) := rfl
    rw [h4, dval_append]
    have h5 : dval [a[k]] = 0 := by unfold dval; simp [h3]
    rw [h5]; omega
theorem dd_zeros {a : List UInt8} (hd : ∀ c ∈ a, isDig c = true) {k : Nat} (hk : k < a.length) (h : ∀ j, j < k → (a.getD j 0).toNat = 48) (hl : k + 1 = a.length ∨ (a.getD k 0).toNat ≠ 48) : a.drop k = dd (dval a) := by
  rw [← dval_zeros (k := k) (by omega) h]
  obtain ⟨m, hm⟩ : ∃ m, (a.drop k).length = m + 1 := ⟨a.length - k - 1, by rw [List.length_drop]; omega⟩
  refine (dd_of_digits m _ hm (fun c hc => hd c (List.mem_of_mem_drop hc)) fun hgt => ?_).symm
  rw [List.length_drop] at hgt
  rcases hl with hl | hl
  · omega
  · rw [List.getD_eq_getElem?_getD, List.getElem?_drop, Nat.add_zero, ← List.getD_eq_getElem?_getD]; exact hl
end Go.Proofs.YtfeegacmmfgjfaaGreatDoorM

/-!  The reference of chapter 2: digits, at, limited, text. -/
set_option linter.unusedVariables false
set_option maxRecDepth 10000
namespace Go.Proofs.YtfeegacmmfgjfaaGreatDoorX
open Go Go.RowKit Go.Proofs Go.Proofs.YtfeegacmmfgjfaaGreatDoorM
def kD : Kd Nat where
  nc := 1
  rep := fun _ _ x cs => cs = [.int .i64 x]
  pos := by decide
  len := by rintro S w x cs rfl; rfl
  one := by rintro S w x cs rfl u hu; simp at hu; subst hu; rfl
  up := fun h _ => h
  mono := fun h _ => h
def kB : Kd UInt8 where
  nc := 1
  rep := fun _ _ x cs => cs = [.int .u8 (x.toNat : Int)]
  pos := by decide
  len := by rintro S w x cs rfl; rfl
  one := by rintro S w x cs rfl u hu; simp at hu; subst hu; rfl
  up := fun h _ => h
  mono := fun h _ => h
theorem kD_one : One kD (fun n => .int .i64 (n : Int)) := ⟨rfl, fun _ _ _ _ => Iff.rfl⟩
theorem kD_flat : Flat kD (fun n => [.int .i64 (n : Int)]) := ⟨fun _ _ _ _ => Iff.rfl⟩
theorem kB_flat : Flat kB (fun c => [.int .u8 (c.toNat : Int)]) := ⟨fun _ _ _ _ => Iff.rfl⟩
theorem SlR.d {S : Nat → Prop} {w : World} {A : Option Addr} {m c : Nat} {xs : List Nat} (h : SlR kD S w (.slice A m c) xs) (i : Nat) (h1 : i < m) : ∃ ad, A = some ad ∧ w.cell? (ad.add (i * 1)) = some (.int .i64 ((xs.getD i 0 : Nat) : Int)) := by
  obtain ⟨ad, cs, rfl, _, rfl, hc⟩ := h.at_ 0 (i : Int) (by omega) (by omega)
  rw [Int.toNat_natCast] at hc
  exact ⟨ad, rfl, cellsAt_zero hc rfl⟩
theorem SlR.b {S : Nat → Prop} {w : World} {A : Option Addr} {m c : Nat} {xs : List UInt8} (h : SlR kB S w (.slice A m c) xs) (i : Nat) (h1 : i < m) : ∃ ad, A = some ad ∧ w.cell? (ad.add (i * 1)) = some (.int .u8 ((xs.getD i 0).toNat : Int)) := by
  obtain ⟨ad, cs, rfl, _, rfl, hc⟩ := h.at_ 0 (i : Int) (by omega) (by omega)
  rw [Int.toNat_natCast] at hc
  exact ⟨ad, rfl, cellsAt_zero hc rfl⟩
/-- string(b) of bytes. -/
theorem sem_bstr {S : Nat → Prop} {E : Env} {K : Value → World → Prop} {w : World} {x : Operand} {ty : TypeId} {v : Value} {xs : List UInt8} (hx : ev E x = some v) (h : SlR kB S w v xs) (hK : K (.string (str xs)) w) : SemOp Tryz.prog (.convert 137 9 x) ty E w K := by
  refine .of fun ρ o hρ hop hty => ⟨_, w, ?_, hK⟩
  obtain ⟨A, c, rfl, h1, h2, h3⟩ := h
  unfold execOp
  rw [hop]
  simp only [Sem.run_bind, hρ _ _ hx]
  cases A with
  | none =>
    have h0 : xs = [] := by
      cases xs with
      | nil => rfl
      | cons y r => obtain ⟨_, _, he, _⟩ := h3 0 y rfl; cases he
    subst h0
    rw [run_convert_bytes_nil (w := w) 137 5 Tryz.underlying137 Tryz.underlying5 _ c 9 Tryz.underlying9]
    rfl
  | some a =>
    have := run_convert_bytes_back (P := Tryz.prog) w 137 9 5 a c xs Tryz.underlying137 Tryz.underlying5 Tryz.underlying9 fun j hj => by
      obtain ⟨ad, cs, he, _, hr, hc⟩ := h3 j xs[j] (List.getElem?_eq_getElem hj)
      cases he
      obtain rfl : cs = _ := hr
      have h5 := cellsAt_zero hc rfl
      rwa [show kB.nc = 1 from rfl, Nat.mul_one] at h5
    rw [this]
    rfl
theorem at_ref (S : Nat → Prop) (A : Option Addr) (n c : Nat) (xs : List Nat) (i : Nat) (w : World) (h : SlR kD S w (.slice A n c) xs) : Ret Tryz.prog 93 #[.slice A n c, .int .i64 i] w fun v w' => v = .int .i64 ((xs.getD i 0 : Nat) : Int) ∧ w' = w := by
  obtain ⟨rfl, hc, hm⟩ := h.len
  refine fn_ret tok Tryz.func93 (by kernel_rfl) rfl rfl ?_
  (conv => whnf)
  refine condP_dec (fun hlt => ?_) (fun hlt => ?_)
  · obtain ⟨ad, rfl, hcell⟩ := h.d i (by omega)
    (repeat ((conv => whnf); first | refine numP_i64 (by omega) ?_ | refine numP_u64 (by omega) ?_ | refine numP_u8 (by omega) ?_ | refine Exists.intro _ (And.intro ‹_› ?_) | refine Exists.intro _ (And.intro rfl ?_) | refine And.intro (by omega) (Exists.intro _ (And.intro rfl ?_)) | refine And.intro (by omega) ?_)); (conv => whnf)
    exact ⟨rfl, rfl⟩
  · (conv => whnf)
    rw [List.getD_eq_getElem?_getD, List.getElem?_eq_none (by omega)]
    exact ⟨rfl, rfl⟩
theorem limited_ref (a : List UInt8) (w : World) (ha : a.length ≤ 1000) : Ret Tryz.prog 94 #[.string (str a)] w fun v w' => v = .tuple #[.string (str a), .int .i64 0] ∧ w' = w := by
  have hs : ((str a).size : Int) = a.length := rfl
  refine fn_ret tok Tryz.func94 (by kernel_rfl) rfl rfl ?_
  (conv => whnf)
  refine condP_no (by omega) ?_
  (conv => whnf)
  exact ⟨rfl, rfl⟩
theorem digits_ref (a : List UInt8) (w : World) (hd : ∀ c ∈ a, isDig c = true) (ha : a.length ≤ 100000) : Ret Tryz.prog 92 #[.string (str a)] w fun v w' => Fresh kD 3 w w' v (dgs a) := by
  have hs : ((str a).size : Int) = a.length := rfl
  refine fn_ret tok Tryz.func92 (by kernel_rfl) rfl rfl ?_
  (repeat ((conv => whnf); first | refine numP_i64 (by omega) ?_ | refine numP_u64 (by omega) ?_ | refine numP_u8 (by omega) ?_ | refine Exists.intro _ (And.intro ‹_› ?_) | refine Exists.intro _ (And.intro rfl ?_) | refine And.intro (by omega) (Exists.intro _ (And.intro rfl ?_)) | refine And.intro (by omega) ?_)); (conv => whnf)
  refine loop_rule tok [3, 4] [0] (fun vs w' => ∃ (m : Nat) (i : Int) (v : Value), vs = [v, .int .i64 i] ∧ i = (m : Int) - 1 ∧ m ≤ a.length ∧ Fresh kD 3 w w' v (dgs (a.drop m))) (fun vs w => match vs with | [_, .int _ i] => (i + 1).toNat | _ => 0) ?_
  (conv => whnf)
  refine ⟨⟨a.length, _, _, rfl, by omega, Nat.le_refl _, by rw [List.drop_length]; exact .nil _ _ (.refl _ _)⟩, ?_⟩
  rintro _ w1 ⟨m, i, v, rfl, hi, hm, hF⟩
  (conv => whnf)
  refine condP_dec (fun hge => ?_) (fun hge => ?_)
  · obtain ⟨m, rfl⟩ : ∃ k, m = k + 1 := ⟨m - 1, by omega⟩
    obtain rfl : i = (m : Int) := by omega
    have hdr := dig_range hd (j := m) (by omega)
    have hb : byteAt (str a) (m : Int) = ((a.getD m 0).toNat : Int) := byteAt_str a m
    have hcons : a.drop m = a.getD m 0 :: a.drop (m + 1) := by
      rw [List.drop_eq_getElem_cons (by omega), List.getD_eq_getElem?_getD, List.getElem?_eq_getElem (by omega)]; rfl
    have hdg : dgs (a.drop m) = dgs (a.drop (m + 1)) ++ [dig (a.getD m 0)] := by rw [hcons]; simp [dgs]
    have hln : (dgs (a.drop (m + 1))).length ≤ 100000 := by rw [dgs_len, List.length_drop]; omega
    (repeat ((conv => whnf); first | refine numP_i64 (by omega) ?_ | refine numP_u64 (by omega) ?_ | refine numP_u8 (by omega) ?_ | refine Exists.intro _ (And.intro ‹_› ?_) | refine Exists.intro _ (And.intro rfl ?_) | refine And.intro (by omega) (Exists.intro _ (And.intro rfl ?_)) | refine And.intro (by omega) ?_)); (conv => whnf)
    rw [hb]
    (repeat ((conv => whnf); first | refine numP_i64 (by omega) ?_ | refine numP_u64 (by omega) ?_ | refine numP_u8 (by omega) ?_ | refine Exists.intro _ (And.intro ‹_› ?_) | refine Exists.intro _ (And.intro rfl ?_) | refine And.intro (by omega) (Exists.intro _ (And.intro rfl ?_)) | refine And.intro (by omega) ?_)); (conv => whnf)
    intro b w2 hw
    (conv => whnf)
    refine kD_flat.app (x := dig (a.getD m 0)) tok rfl rfl rfl rfl rfl hw hF (by rw [show (((a.getD m 0).toNat : Int) - 48) = ((dig (a.getD m 0) : Nat) : Int) by omega]; rfl) (by omega) (by omega) (fun v' w3 hF3 hC3 ho3 => ?_)
    (repeat ((conv => whnf); first | refine numP_i64 (by omega) ?_ | refine numP_u64 (by omega) ?_ | refine numP_u8 (by omega) ?_ | refine Exists.intro _ (And.intro ‹_› ?_) | refine Exists.intro _ (And.intro rfl ?_) | refine And.intro (by omega) (Exists.intro _ (And.intro rfl ?_)) | refine And.intro (by omega) ?_)); (conv => whnf)
    refine ⟨⟨rfl, rfl⟩, ⟨m, _, v', rfl, rfl, by omega, by rw [hdg]; exact hF3⟩, by simp <;> omega⟩
  · obtain rfl : m = 0 := by omega
    rw [List.drop_zero] at hF
    (conv => whnf)
    exact hF
theorem text_ref (S : Nat → Prop) (A : Option Addr) (n c : Nat) (l : List Nat) (w : World) (h : SlR kD S w (.slice A n c) l) (hl : l.length ≤ 100000) (hd : ∀ x ∈ l, x < 10) : Ret Tryz.prog 95 #[.slice A n c] w fun v w' => v = .string (str (dd (valB10 l))) ∧ Ext w w' := by
  obtain ⟨rfl, hc, hm⟩ := h.len
  refine fn_ret tok Tryz.func95 (by kernel_rfl) rfl rfl ?_
  (conv => whnf)
  refine loop_box tok 0 [3] [0] [3] (fun vs w' => ∃ n : Nat, vs = [.int .i64 n] ∧ n ≤ l.length ∧ (l = [] ∨ 1 ≤ n) ∧ (∀ j, n ≤ j → j < l.length → l.getD j 0 = 0) ∧ w' = w) (fun vs w => match vs with | [.int _ i] => i.toNat | _ => 0)
    (fun vs w' => ∃ n : Nat, vs = [.int .i64 n] ∧ n ≤ l.length ∧ (l = [] ∨ 1 ≤ n) ∧ (∀ j, n ≤ j → j < l.length → l.getD j 0 = 0) ∧ (n ≤ 1 ∨ l.getD (n - 1) 0 ≠ 0) ∧ w' = w) ?_
  (conv => whnf)
  refine ⟨⟨l.length, rfl, Nat.le_refl _, ?_, fun j h1 h2 => by omega, rfl⟩, ?_, ?_⟩
  · cases l with
    | nil => exact .inl rfl
    | cons x r => exact .inr (by simp)
  · rintro _ w ⟨n, rfl, hn, h1, hz, rfl⟩
    (conv => whnf)
    refine condP_dec (fun hgt => ?_) (fun hgt => ?_)
    · obtain ⟨ad, rfl, hcell⟩ := h.d (n - 1) (by omega)
      have hnm : (((n : Int) - 1).toNat) = n - 1 := by omega
      (repeat ((conv => whnf); first | refine numP_i64 (by omega) ?_ | refine numP_u64 (by omega) ?_ | refine numP_u8 (by omega) ?_ | refine Exists.intro _ (And.intro ‹_› ?_) | refine Exists.intro _ (And.intro rfl ?_) | refine And.intro (by omega) (Exists.intro _ (And.intro rfl ?_)) | refine And.intro (by omega) ?_)); (conv => whnf)
      rw [hnm]
      (repeat ((conv => whnf); first | refine numP_i64 (by omega) ?_ | refine numP_u64 (by omega) ?_ | refine numP_u8 (by omega) ?_ | refine Exists.intro _ (And.intro ‹_› ?_) | refine Exists.intro _ (And.intro rfl ?_) | refine And.intro (by omega) (Exists.intro _ (And.intro rfl ?_)) | refine And.intro (by omega) ?_)); (conv => whnf)
      refine condP_dec (fun h0 => ?_) (fun h0 => ?_)
      · (repeat ((conv => whnf); first | refine numP_i64 (by omega) ?_ | refine numP_u64 (by omega) ?_ | refine numP_u8 (by omega) ?_ | refine Exists.intro _ (And.intro ‹_› ?_) | refine Exists.intro _ (And.intro rfl ?_) | refine And.intro (by omega) (Exists.intro _ (And.intro rfl ?_)) | refine And.intro (by omega) ?_)); (conv => whnf)
        refine ⟨⟨rfl, rfl⟩, ⟨n - 1, by rw [show ((n - 1 : Nat) : Int) = (n : Int) - 1 by omega], by omega, .inr (by omega), fun j hj hjl => ?_, rfl⟩, by simp; omega⟩
        by_cases hjn : j = n - 1
        · subst hjn; omega
        · exact hz j (by omega) hjl
      · (repeat ((conv => whnf); first | refine numP_i64 (by omega) ?_ | refine numP_u64 (by omega) ?_ | refine numP_u8 (by omega) ?_ | refine Exists.intro _ (And.intro ‹_› ?_) | refine Exists.intro _ (And.intro rfl ?_) | refine And.intro (by omega) (Exists.intro _ (And.intro rfl ?_)) | refine And.intro (by omega) ?_)); (conv => whnf)
        exact ⟨⟨rfl, rfl⟩, n, rfl, hn, h1, hz, .inr (by omega), rfl⟩
    · (conv => whnf)
      exact ⟨⟨rfl, rfl⟩, n, rfl, hn, h1, hz, .inl (by omega), rfl⟩
  rintro _ w ⟨n, rfl, hn, h1, hz, hlast, rfl⟩
  (repeat ((conv => whnf); first | refine numP_i64 (by omega) ?_ | refine numP_u64 (by omega) ?_ | refine numP_u8 (by omega) ?_ | refine Exists.intro _ (And.intro ‹_› ?_) | refine Exists.intro _ (And.intro rfl ?_) | refine And.intro (by omega) (Exists.intro _ (And.intro rfl ?_)) | refine And.intro (by omega) ?_)); (conv => whnf)
  have htl : (l.take n).length = n := by rw [List.length_take, Nat.min_eq_left hn]
  refine loop_rule tok [4, 5] [0, 3] (fun vs w' => ∃ (j : Nat) (i : Int) (v : Value), vs = [v, .int .i64 i] ∧ i = (n : Int) - 1 - j ∧ j ≤ n ∧ Fresh kB 5 w w' v (((l.take n).reverse.take j).map chr)) (fun vs w => match vs with | [_, .int _ i] => (i + 1).toNat | _ => 0) ?_
  (conv => whnf)
  refine ⟨⟨0, _, _, rfl, by omega, Nat.zero_le _, .nil _ _ (.refl _ _)⟩, ?_⟩
  rintro _ w1 ⟨j, i, v, rfl, hi, hj, hF⟩
  (conv => whnf)
  refine condP_dec (fun hge => ?_) (fun hge => ?_)
  · obtain ⟨ad, rfl, hcell⟩ := (h.ext hF.ext).d (n - 1 - j) (by omega)
    have hnm : i.toNat = n - 1 - j := by omega
    have hdl := getD_lt10 hd (n - 1 - j)
    have htk : ((l.take n).reverse.take (j + 1)).map chr = ((l.take n).reverse.take j).map chr ++ [chr (l.getD (n - 1 - j) 0)] := by
      rw [List.take_add_one, List.getElem?_reverse (by omega), htl, List.getElem?_take_of_lt (by omega), List.getD_eq_getElem?_getD, List.getElem?_eq_getElem (show n - 1 - j < l.length by omega), List.map_append]
      rfl
    have hlen : (((l.take n).reverse.take j).map chr).length ≤ 100000 := by
      rw [List.length_map, List.length_take]; have := Nat.min_le_left j (l.take n).reverse.length; omega
    (repeat ((conv => whnf); first | refine numP_i64 (by omega) ?_ | refine numP_u64 (by omega) ?_ | refine numP_u8 (by omega) ?_ | refine Exists.intro _ (And.intro ‹_› ?_) | refine Exists.intro _ (And.intro rfl ?_) | refine And.intro (by omega) (Exists.intro _ (And.intro rfl ?_)) | refine And.intro (by omega) ?_)); (conv => whnf)
    rw [hnm]
    (repeat ((conv => whnf); first | refine numP_i64 (by omega) ?_ | refine numP_u64 (by omega) ?_ | refine numP_u8 (by omega) ?_ | refine Exists.intro _ (And.intro ‹_› ?_) | refine Exists.intro _ (And.intro rfl ?_) | refine And.intro (by omega) (Exists.intro _ (And.intro rfl ?_)) | refine And.intro (by omega) ?_)); (conv => whnf)
    intro b w2 hw
    (conv => whnf)
    refine kB_flat.app (x := chr (l.getD (n - 1 - j) 0)) tok rfl rfl rfl rfl rfl hw hF (by rw [show (48 + ((l.getD (n - 1 - j) 0 : Nat) : Int)) = ((chr (l.getD (n - 1 - j) 0)).toNat : Int) by rw [(dig_chr hdl).2.2]; omega]; rfl) (by omega) (by omega) (fun v' w3 hF3 hC3 ho3 => ?_)
    (repeat ((conv => whnf); first | refine numP_i64 (by omega) ?_ | refine numP_u64 (by omega) ?_ | refine numP_u8 (by omega) ?_ | refine Exists.intro _ (And.intro ‹_› ?_) | refine Exists.intro _ (And.intro rfl ?_) | refine And.intro (by omega) (Exists.intro _ (And.intro rfl ?_)) | refine And.intro (by omega) ?_)); (conv => whnf)
    refine ⟨⟨rfl, rfl⟩, ⟨j + 1, _, v', rfl, by omega, by omega, by rw [htk]; exact hF3⟩, by simp <;> omega⟩
  · obtain rfl : j = n := by omega
    rw [List.take_of_length_le (by rw [List.length_reverse]; omega)] at hF
    have hE := hF.ext
    obtain ⟨B, d, rfl, _, _⟩ := hF.shape
    have hle : (((l.take j).reverse.map chr).length : Int) = j := by rw [List.length_map, List.length_reverse, htl]
    (conv => whnf)
    refine condP_dec (fun h0 => ?_) (fun h0 => ?_)
    · have hl0 : l = [] := by
        rcases h1 with h1 | h1
        · exact h1
        · omega
      (conv => whnf)
      subst hl0
      refine ⟨?_, hE⟩
      rw [show valB10 [] = 0 from rfl, dd_small (by omega)]
      rfl
    · have he := txt_dd hd hn (by omega) hz (by rcases hlast with h | h; exact .inl (by omega); exact .inr h)
      (conv => whnf)
      refine sem_bstr rfl hF.read ?_
      rw [he]
      (conv => whnf)
      exact ⟨rfl, hE⟩
end Go.Proofs.YtfeegacmmfgjfaaGreatDoorX

/-!  The reference of chapter 2: compare, Valid, less, Add. -/
set_option linter.unusedVariables false
set_option maxRecDepth 10000
namespace Go.Proofs.YtfeegacmmfgjfaaGreatDoorX
open Go Go.RowKit Go.Proofs Go.Proofs.YtfeegacmmfgjfaaGreatDoorM
theorem compare_ref (x y : Nat) (w : World) (hx : (dd x).length ≤ 100000) (hy : (dd y).length ≤ 100000) : Ret Tryz.prog 96 #[.string (str (dd x)), .string (str (dd y))] w fun v w' => v = .int .i64 (cmpN x y) ∧ Ext w w' := by
  have hs1 : ((str (dd x)).size : Int) = (dd x).length := rfl
  have hs2 : ((str (dd y)).size : Int) = (dd y).length := rfl
  refine fn_ret tok Tryz.func96 (by kernel_rfl) rfl rfl ?_
  (conv => whnf)
  refine condP_not (condP_dec (fun hl => ?_) (fun hl => ?_))
  · have hl : (dd x).length = (dd y).length := by omega
    (conv => whnf)
    refine loop_rule tok [5] [0, 1] (fun vs w' => ∃ i : Nat, vs = [.int .i64 i] ∧ i ≤ (dd x).length ∧ (∀ j, j < i → (dd x).getD j 0 = (dd y).getD j 0) ∧ Ext w w') (fun vs w => match vs with | [.int _ i] => (dd x).length - i.toNat | _ => 0) ?_
    (conv => whnf)
    refine ⟨⟨0, rfl, Nat.zero_le _, fun j hj => by omega, .refl _ _⟩, ?_⟩
    rintro _ w1 ⟨i, rfl, hi, he, hE⟩
    (conv => whnf)
    refine condP_dec (fun hlt => ?_) (fun hlt => ?_)
    · have hb1 : byteAt (str (dd x)) (i : Int) = (((dd x).getD i 0).toNat : Int) := byteAt_str _ i
      have hb2 : byteAt (str (dd y)) (i : Int) = (((dd y).getD i 0).toNat : Int) := byteAt_str _ i
      (conv => whnf)
      refine draw_read tok mixed (by decide +kernel) ?_
      (repeat ((conv => whnf); first | refine numP_i64 (by omega) ?_ | refine numP_u64 (by omega) ?_ | refine numP_u8 (by omega) ?_ | refine Exists.intro _ (And.intro (fun _ h => (congrArg (fun w => World.cell? w _) h).trans ‹_›) ?_) | refine And.intro (by omega) (Exists.intro _ (And.intro rfl ?_)) | refine And.intro (by omega) ?_)); (conv => whnf)
      rintro _ rfl
      have hE1 : Ext w w1.drew := hE.trans (Chg.drew _ _)
      have hly : (dd y).length = (dd x).length := hl.symm
      (conv => whnf)
      rw [hb1, hb2]
      refine condP_not (condP_dec (fun hq => ?_) (fun hq => ?_))
      · (repeat ((conv => whnf); first | refine numP_i64 (by omega) ?_ | refine numP_u64 (by omega) ?_ | refine numP_u8 (by omega) ?_ | refine Exists.intro _ (And.intro ‹_› ?_) | refine Exists.intro _ (And.intro rfl ?_) | refine And.intro (by omega) (Exists.intro _ (And.intro rfl ?_)) | refine And.intro (by omega) ?_)); (conv => whnf)
        refine ⟨⟨rfl, rfl⟩, ⟨i + 1, rfl, by omega, fun j hj => ?_, hE1⟩, by simp; omega⟩
        by_cases h6 : j = i
        · subst h6; exact UInt8.toNat_inj.1 (by omega)
        · exact he j (by omega)
      · (conv => whnf)
        refine draw_read tok mixed (by decide +kernel) ?_
        (repeat ((conv => whnf); first | refine numP_i64 (by omega) ?_ | refine numP_u64 (by omega) ?_ | refine numP_u8 (by omega) ?_ | refine Exists.intro _ (And.intro (fun _ h => (congrArg (fun w => World.cell? w _) h).trans ‹_›) ?_) | refine And.intro (by omega) (Exists.intro _ (And.intro rfl ?_)) | refine And.intro (by omega) ?_)); (conv => whnf)
        rintro _ rfl
        (conv => whnf)
        rw [hb1, hb2]
        refine condP_dec (fun hq2 => ?_) (fun hq2 => ?_)
        · have := cmp_dig (dd_dig x) (dd_dig y) hl (i := i) (by omega) he (by omega)
          rw [dval_dd, dval_dd] at this
          (conv => whnf)
          exact ⟨by rw [cmpN_lt this], hE1.trans (Chg.drew _ _)⟩
        · have := cmp_dig (dd_dig y) (dd_dig x) hly (i := i) (by omega) (fun j hj => (he j hj).symm) (by omega)
          rw [dval_dd, dval_dd] at this
          (conv => whnf)
          exact ⟨by rw [cmpN_gt this], hE1.trans (Chg.drew _ _)⟩
    · have := dd_inj (ext_getD hl fun j hj => he j (by omega))
      subst this
      (conv => whnf)
      exact ⟨by rw [cmpN_eq], hE⟩
  · (conv => whnf)
    refine condP_dec (fun hlt => ?_) (fun hlt => ?_)
    · have : x < y := by
        rcases Nat.lt_or_ge x y with h | h
        · exact h
        · have := dd_mono h; omega
      (conv => whnf)
      exact ⟨by rw [cmpN_lt this], .refl _ _⟩
    · have : y < x := by
        rcases Nat.lt_or_ge y x with h | h
        · exact h
        · have := dd_mono h; omega
      (conv => whnf)
      exact ⟨by rw [cmpN_gt this], .refl _ _⟩
theorem valid_ref (a : List UInt8) (w : World) (h : isNat a = true) : Ret Tryz.prog 59 #[.string (str a)] w fun v w' => v = .bool true ∧ w' = w := by
  obtain ⟨h0, h1⟩ := isNat_len h
  have hd := isNat_dig h
  have hs : ((str a).size : Int) = a.length := rfl
  have hb0 : byteAt (str a) 0 = ((a.getD 0 0).toNat : Int) := byteAt_str a 0
  refine fn_ret tok Tryz.func59 (by kernel_rfl) rfl rfl ?_
  (conv => whnf)
  refine condP_no (by omega) ?_
  (conv => whnf)
  refine condP_no (by omega) ?_
  (repeat ((conv => whnf); first | refine numP_i64 (by omega) ?_ | refine numP_u64 (by omega) ?_ | refine numP_u8 (by omega) ?_ | refine Exists.intro _ (And.intro ‹_› ?_) | refine Exists.intro _ (And.intro rfl ?_) | refine And.intro (by omega) (Exists.intro _ (And.intro rfl ?_)) | refine And.intro (by omega) ?_)); (conv => whnf)
  rw [hb0]
  refine condP_dec (fun h48 => ?_) (fun h48 => ?_)
  · (conv => whnf)
    refine condP_no (fun hgt => ?_) ?_
    · exact isNat_first h (by omega) (by omega)
    (conv => whnf)
    refine loop_rule tok [3] [0] (fun vs w' => ∃ i : Nat, vs = [.int .i64 i] ∧ i ≤ a.length ∧ w' = w) (fun vs w => match vs with | [.int _ i] => a.length - i.toNat | _ => 0) ?_
    (conv => whnf)
    refine ⟨⟨0, rfl, Nat.zero_le _, rfl⟩, ?_⟩
    rintro _ w ⟨i, rfl, hi, rfl⟩
    (conv => whnf)
    refine condP_dec (fun hlt => ?_) (fun hlt => ?_)
    · have hb : byteAt (str a) (i : Int) = ((a.getD i 0).toNat : Int) := byteAt_str a i
      have hdr := dig_range hd (j := i) (by omega)
      (repeat ((conv => whnf); first | refine numP_i64 (by omega) ?_ | refine numP_u64 (by omega) ?_ | refine numP_u8 (by omega) ?_ | refine Exists.intro _ (And.intro ‹_› ?_) | refine Exists.intro _ (And.intro rfl ?_) | refine And.intro (by omega) (Exists.intro _ (And.intro rfl ?_)) | refine And.intro (by omega) ?_)); (conv => whnf)
      rw [hb]
      refine condP_no (by omega) ?_
      (repeat ((conv => whnf); first | refine numP_i64 (by omega) ?_ | refine numP_u64 (by omega) ?_ | refine numP_u8 (by omega) ?_ | refine Exists.intro _ (And.intro ‹_› ?_) | refine Exists.intro _ (And.intro rfl ?_) | refine And.intro (by omega) (Exists.intro _ (And.intro rfl ?_)) | refine And.intro (by omega) ?_)); (conv => whnf)
      rw [hb]
      refine condP_no (by omega) ?_
      (repeat ((conv => whnf); first | refine numP_i64 (by omega) ?_ | refine numP_u64 (by omega) ?_ | refine numP_u8 (by omega) ?_ | refine Exists.intro _ (And.intro ‹_› ?_) | refine Exists.intro _ (And.intro rfl ?_) | refine And.intro (by omega) (Exists.intro _ (And.intro rfl ?_)) | refine And.intro (by omega) ?_)); (conv => whnf)
      exact ⟨⟨rfl, rfl⟩, ⟨i + 1, rfl, by omega, rfl⟩, by simp; omega⟩
    · (conv => whnf)
      exact ⟨rfl, rfl⟩
  · (conv => whnf)
    refine loop_rule tok [3] [0] (fun vs w' => ∃ i : Nat, vs = [.int .i64 i] ∧ i ≤ a.length ∧ w' = w) (fun vs w => match vs with | [.int _ i] => a.length - i.toNat | _ => 0) ?_
    (conv => whnf)
    refine ⟨⟨0, rfl, Nat.zero_le _, rfl⟩, ?_⟩
    rintro _ w ⟨i, rfl, hi, rfl⟩
    (conv => whnf)
    refine condP_dec (fun hlt => ?_) (fun hlt => ?_)
    · have hb : byteAt (str a) (i : Int) = ((a.getD i 0).toNat : Int) := byteAt_str a i
      have hdr := dig_range hd (j := i) (by omega)
      (repeat ((conv => whnf); first | refine numP_i64 (by omega) ?_ | refine numP_u64 (by omega) ?_ | refine numP_u8 (by omega) ?_ | refine Exists.intro _ (And.intro ‹_› ?_) | refine Exists.intro _ (And.intro rfl ?_) | refine And.intro (by omega) (Exists.intro _ (And.intro rfl ?_)) | refine And.intro (by omega) ?_)); (conv => whnf)
      rw [hb]
      refine condP_no (by omega) ?_
      (repeat ((conv => whnf); first | refine numP_i64 (by omega) ?_ | refine numP_u64 (by omega) ?_ | refine numP_u8 (by omega) ?_ | refine Exists.intro _ (And.intro ‹_› ?_) | refine Exists.intro _ (And.intro rfl ?_) | refine And.intro (by omega) (Exists.intro _ (And.intro rfl ?_)) | refine And.intro (by omega) ?_)); (conv => whnf)
      rw [hb]
      refine condP_no (by omega) ?_
      (repeat ((conv => whnf); first | refine numP_i64 (by omega) ?_ | refine numP_u64 (by omega) ?_ | refine numP_u8 (by omega) ?_ | refine Exists.intro _ (And.intro ‹_› ?_) | refine Exists.intro _ (And.intro rfl ?_) | refine And.intro (by omega) (Exists.intro _ (And.intro rfl ?_)) | refine And.intro (by omega) ?_)); (conv => whnf)
      exact ⟨⟨rfl, rfl⟩, ⟨i + 1, rfl, by omega, rfl⟩, by simp; omega⟩
    · (conv => whnf)
      exact ⟨rfl, rfl⟩
theorem valid_dd (x : Nat) (w : World) (h : (dd x).length ≤ 1000) : Ret Tryz.prog 59 #[.string (str (dd x))] w fun v w' => v = .bool true ∧ w' = w := valid_ref (dd x) w (isNat_dd h)
theorem less_ref (S S' : Nat → Prop) (A A' : Option Addr) (n c n' c' : Nat) (xs ys : List Nat) (w : World) (h : SlR kD S w (.slice A n c) xs) (h' : SlR kD S' w (.slice A' n' c') ys) (hxs : ∀ x ∈ xs, x < 10) (hys : ∀ x ∈ ys, x < 10) (hl : xs.length ≤ 100000) :
    Ret Tryz.prog 97 #[.slice A n c, .slice A' n' c'] w fun v w' => Fresh kD 3 w w' v (eachS gMinus10 xs ys xs.length).1 := by
  obtain ⟨rfl, hc, hm⟩ := h.len
  obtain ⟨rfl, hc', hm'⟩ := h'.len
  have hall := fun i => each_all10 (g := gMinus10) (good := fun c => c ≤ 1) hxs hys (by decide) (fun a b c ha hb hc => ⟨(gMinus_ok10 ha hb hc).1, (gMinus_ok10 ha hb hc).2.1⟩) i
  refine fn_ret tok Tryz.func97 (by kernel_rfl) rfl rfl ?_
  (conv => whnf)
  refine loop_rule tok [5, 6, 7] [0, 1] (fun vs w' => ∃ (i : Nat) (v : Value), vs = [v, .int .i64 ((eachS gMinus10 xs ys i).2 : Nat), .int .i64 i] ∧ i ≤ xs.length ∧ Fresh kD 3 w w' v (eachS gMinus10 xs ys i).1) (fun vs w => match vs with | [_, _, .int _ i] => xs.length - i.toNat | _ => 0) ?_
  (conv => whnf)
  refine ⟨⟨0, _, rfl, Nat.zero_le _, .nil _ _ (.refl _ _)⟩, ?_⟩
  rintro _ w1 ⟨i, v, rfl, hi, hF⟩
  (conv => whnf)
  refine condP_dec (fun hlt => ?_) (fun hlt => ?_)
  · have hS := eachS_succ gMinus10 xs ys i
    have hc1 := (hall i).2
    have hln := eachS_len gMinus10 xs ys i
    have ha := getD_lt10 hxs i
    have hb := getD_lt10 hys i
    have hg := gMinus_ok10 ha hb hc1
    generalize hgg : (eachS gMinus10 xs ys i).2 = cy at *
    (conv => whnf)
    refine (at_ref _ _ _ _ xs i w1 (h.ext hF.ext)).call ?_
    rintro _ w1 ⟨rfl, rfl⟩
    (conv => whnf)
    refine (at_ref _ _ _ _ ys i w1 (h'.ext hF.ext)).call ?_
    rintro _ w1 ⟨rfl, rfl⟩
    generalize hG : gMinus10 (xs.getD i 0) (ys.getD i 0) cy = G at *
    (repeat ((conv => whnf); first | refine numP_i64 (by omega) ?_ | refine numP_u64 (by omega) ?_ | refine numP_u8 (by omega) ?_ | refine Exists.intro _ (And.intro ‹_› ?_) | refine Exists.intro _ (And.intro rfl ?_) | refine And.intro (by omega) (Exists.intro _ (And.intro rfl ?_)) | refine And.intro (by omega) ?_)); (conv => whnf)
    refine condP_dec (fun hneg => ?_) (fun hneg => ?_)
    · have e1 : ((xs.getD i 0 : Nat) : Int) - ((ys.getD i 0 : Nat) : Int) - (cy : Int) + 10 = ((G.1 : Nat) : Int) := by omega
      have e2 : (1 : Int) = ((G.2 : Nat) : Int) := by omega
      (repeat ((conv => whnf); first | refine numP_i64 (by omega) ?_ | refine numP_u64 (by omega) ?_ | refine numP_u8 (by omega) ?_ | refine Exists.intro _ (And.intro ‹_› ?_) | refine Exists.intro _ (And.intro rfl ?_) | refine And.intro (by omega) (Exists.intro _ (And.intro rfl ?_)) | refine And.intro (by omega) ?_)); (conv => whnf)
      rw [e1]
      intro b w2 hw
      (conv => whnf)
      refine kD_flat.app (x := G.1) tok rfl rfl rfl rfl rfl hw hF rfl (by omega) (by omega) (fun v' w3 hF3 hC3 ho3 => ?_)
      (repeat ((conv => whnf); first | refine numP_i64 (by omega) ?_ | refine numP_u64 (by omega) ?_ | refine numP_u8 (by omega) ?_ | refine Exists.intro _ (And.intro ‹_› ?_) | refine Exists.intro _ (And.intro rfl ?_) | refine And.intro (by omega) (Exists.intro _ (And.intro rfl ?_)) | refine And.intro (by omega) ?_)); (conv => whnf)
      refine ⟨⟨rfl, rfl⟩, ⟨i + 1, v', by rw [hS]; show _ = [v', Value.int .i64 ((G.2 : Nat) : Int), Value.int .i64 ((i + 1 : Nat) : Int)]; rw [← e2]; rfl, by omega, by rw [hS]; exact hF3⟩, by simp; omega⟩
    · have e1 : ((xs.getD i 0 : Nat) : Int) - ((ys.getD i 0 : Nat) : Int) - (cy : Int) = ((G.1 : Nat) : Int) := by omega
      have e2 : (0 : Int) = ((G.2 : Nat) : Int) := by omega
      (repeat ((conv => whnf); first | refine numP_i64 (by omega) ?_ | refine numP_u64 (by omega) ?_ | refine numP_u8 (by omega) ?_ | refine Exists.intro _ (And.intro ‹_› ?_) | refine Exists.intro _ (And.intro rfl ?_) | refine And.intro (by omega) (Exists.intro _ (And.intro rfl ?_)) | refine And.intro (by omega) ?_)); (conv => whnf)
      rw [e1]
      intro b w2 hw
      (conv => whnf)
      refine kD_flat.app (x := G.1) tok rfl rfl rfl rfl rfl hw hF rfl (by omega) (by omega) (fun v' w3 hF3 hC3 ho3 => ?_)
      (repeat ((conv => whnf); first | refine numP_i64 (by omega) ?_ | refine numP_u64 (by omega) ?_ | refine numP_u8 (by omega) ?_ | refine Exists.intro _ (And.intro ‹_› ?_) | refine Exists.intro _ (And.intro rfl ?_) | refine And.intro (by omega) (Exists.intro _ (And.intro rfl ?_)) | refine And.intro (by omega) ?_)); (conv => whnf)
      refine ⟨⟨rfl, rfl⟩, ⟨i + 1, v', by rw [hS]; show _ = [v', Value.int .i64 ((G.2 : Nat) : Int), Value.int .i64 ((i + 1 : Nat) : Int)]; rw [← e2]; rfl, by omega, by rw [hS]; exact hF3⟩, by simp; omega⟩
  · obtain rfl : i = xs.length := by omega
    (conv => whnf)
    exact hF
theorem tmod10 (n : Nat) : Int.tmod (n : Int) 10 = ((n % 10 : Nat) : Int) := by rw [Int.tmod_eq_emod_of_nonneg (by omega)]; omega
theorem tdiv10 (n : Nat) : Int.tdiv (n : Int) 10 = ((n / 10 : Nat) : Int) := by rw [Int.tdiv_eq_ediv_of_nonneg (by omega)]; omega
theorem add_ref (x y : Nat) (w : World) (hx : (dd x).length ≤ 900) (hy : (dd y).length ≤ 900) : Ret Tryz.prog 55 #[.string (str (dd x)), .string (str (dd y))] w fun v w' => v = .tuple #[.string (str (dd (x + y))), .int .i64 0] ∧ Ext w w' := by
  refine fn_ret tok Tryz.func55 (by kernel_rfl) rfl rfl ?_
  (conv => whnf)
  refine (valid_dd x _ (by omega)).call ?_
  rintro _ w ⟨rfl, rfl⟩
  (conv => whnf)
  refine (valid_dd y _ (by omega)).call ?_
  rintro _ w ⟨rfl, rfl⟩
  (conv => whnf)
  refine (digits_ref (dd x) w (dd_dig x) (by omega)).call ?_
  intro v1 w1 hF1
  (conv => whnf)
  refine (digits_ref (dd y) w1 (dd_dig y) (by omega)).call ?_
  intro v2 w2 hF2
  obtain ⟨A1, c1, rfl, _, _⟩ := hF1.shape
  obtain ⟨A2, c2, rfl, _, _⟩ := hF2.shape
  have h := (hF1.up hF2.ext).old
  have h' := hF2.old
  have hE2 : Ext w w2 := hF1.ext.trans hF2.ext
  have hxs := dgs_lt (dd_dig x)
  have hys := dgs_lt (dd_dig y)
  have hpl := plus_all hxs hys
  have hlx := dgs_len (dd x)
  have hly := dgs_len (dd y)
  rw [dgs_val, dgs_val, dval_dd, dval_dd] at hpl
  generalize dgs (dd x) = xs at *
  generalize dgs (dd y) = ys at *
  have hall := fun i => each_all10 (g := gPlus10) (good := fun c => c ≤ 1) hxs hys (by decide) (fun a b c ha hb hc => ⟨(gPlus_ok10 ha hb hc).1, (gPlus_ok10 ha hb hc).2.1⟩) i
  clear hF1 hF2
  (conv => whnf)
  refine loop_rule tok [8, 9, 10] [6, 7] (fun vs w' => ∃ (i : Nat) (v : Value), vs = [v, .int .i64 ((eachS gPlus10 xs ys i).2 : Nat), .int .i64 i] ∧ i ≤ max xs.length ys.length + 1 ∧ Fresh kD 3 w2 w' v (eachS gPlus10 xs ys i).1) (fun vs w => match vs with | [_, _, .int _ i] => max xs.length ys.length + 1 - i.toNat | _ => 0) ?_
  (conv => whnf)
  refine ⟨⟨0, _, rfl, Nat.zero_le _, .nil _ _ (.refl _ _)⟩, ?_⟩
  rintro _ w3 ⟨i, v, rfl, hi, hF⟩
  have hs2 := hE2.size
  (conv => whnf)
  refine condP_dec (fun h1 => ?_) (fun h1 => ?_)
  · (conv => whnf)
    have hS := eachS_succ gPlus10 xs ys i
    have hc1 := (hall i).2
    have hln := eachS_len gPlus10 xs ys i
    have ha := getD_lt10 hxs i
    have hb := getD_lt10 hys i
    generalize hgg : (eachS gPlus10 xs ys i).2 = cy at *
    refine (at_ref _ _ _ _ xs i w3 (h.ext hF.ext)).call ?_
    rintro _ w3 ⟨rfl, rfl⟩
    (conv => whnf)
    refine (at_ref _ _ _ _ ys i w3 (h'.ext hF.ext)).call ?_
    rintro _ w3 ⟨rfl, rfl⟩
    (repeat ((conv => whnf); first | refine numP_i64 (by omega) ?_ | refine numP_u64 (by omega) ?_ | refine numP_u8 (by omega) ?_ | refine Exists.intro _ (And.intro ‹_› ?_) | refine Exists.intro _ (And.intro rfl ?_) | refine And.intro (by omega) (Exists.intro _ (And.intro rfl ?_)) | refine And.intro (by omega) ?_)); (conv => whnf)
    have e1 : ((xs.getD i 0 : Nat) : Int) + ((ys.getD i 0 : Nat) : Int) + (cy : Int) = ((xs.getD i 0 + ys.getD i 0 + cy : Nat) : Int) := by omega
    rw [e1]
    generalize hs : xs.getD i 0 + ys.getD i 0 + cy = s at *
    rw [tmod10]
    (repeat ((conv => whnf); first | refine numP_i64 (by omega) ?_ | refine numP_u64 (by omega) ?_ | refine numP_u8 (by omega) ?_ | refine Exists.intro _ (And.intro ‹_› ?_) | refine Exists.intro _ (And.intro rfl ?_) | refine And.intro (by omega) (Exists.intro _ (And.intro rfl ?_)) | refine And.intro (by omega) ?_)); (conv => whnf)
    intro b w4 hw4
    (conv => whnf)
    refine kD_flat.app (x := s % 10) tok rfl rfl rfl rfl rfl hw4 hF rfl (by omega) (by omega) (fun v' w5 hF5 hC5 ho5 => ?_)
    (repeat ((conv => whnf); first | refine numP_i64 (by omega) ?_ | refine numP_u64 (by omega) ?_ | refine numP_u8 (by omega) ?_ | refine Exists.intro _ (And.intro ‹_› ?_) | refine Exists.intro _ (And.intro rfl ?_) | refine And.intro (by omega) (Exists.intro _ (And.intro rfl ?_)) | refine And.intro (by omega) ?_)); (conv => whnf)
    rw [tdiv10]
    (repeat ((conv => whnf); first | refine numP_i64 (by omega) ?_ | refine numP_u64 (by omega) ?_ | refine numP_u8 (by omega) ?_ | refine Exists.intro _ (And.intro ‹_› ?_) | refine Exists.intro _ (And.intro rfl ?_) | refine And.intro (by omega) (Exists.intro _ (And.intro rfl ?_)) | refine And.intro (by omega) ?_)); (conv => whnf)
    refine ⟨⟨rfl, rfl⟩, ⟨i + 1, v', by rw [hS]; unfold gPlus10; rw [hs]; rfl, by omega, by rw [hS]; unfold gPlus10; rw [hs]; exact hF5⟩, by simp; omega⟩
  · (conv => whnf)
    refine condP_dec (fun h2 => ?_) (fun h2 => ?_)
    · (conv => whnf)
      have hS := eachS_succ gPlus10 xs ys i
      have hc1 := (hall i).2
      have hln := eachS_len gPlus10 xs ys i
      have ha := getD_lt10 hxs i
      have hb := getD_lt10 hys i
      generalize hgg : (eachS gPlus10 xs ys i).2 = cy at *
      refine (at_ref _ _ _ _ xs i w3 (h.ext hF.ext)).call ?_
      rintro _ w3 ⟨rfl, rfl⟩
      (conv => whnf)
      refine (at_ref _ _ _ _ ys i w3 (h'.ext hF.ext)).call ?_
      rintro _ w3 ⟨rfl, rfl⟩
      (repeat ((conv => whnf); first | refine numP_i64 (by omega) ?_ | refine numP_u64 (by omega) ?_ | refine numP_u8 (by omega) ?_ | refine Exists.intro _ (And.intro ‹_› ?_) | refine Exists.intro _ (And.intro rfl ?_) | refine And.intro (by omega) (Exists.intro _ (And.intro rfl ?_)) | refine And.intro (by omega) ?_)); (conv => whnf)
      have e1 : ((xs.getD i 0 : Nat) : Int) + ((ys.getD i 0 : Nat) : Int) + (cy : Int) = ((xs.getD i 0 + ys.getD i 0 + cy : Nat) : Int) := by omega
      rw [e1]
      generalize hs : xs.getD i 0 + ys.getD i 0 + cy = s at *
      rw [tmod10]
      (repeat ((conv => whnf); first | refine numP_i64 (by omega) ?_ | refine numP_u64 (by omega) ?_ | refine numP_u8 (by omega) ?_ | refine Exists.intro _ (And.intro ‹_› ?_) | refine Exists.intro _ (And.intro rfl ?_) | refine And.intro (by omega) (Exists.intro _ (And.intro rfl ?_)) | refine And.intro (by omega) ?_)); (conv => whnf)
      intro b w4 hw4
      (conv => whnf)
      refine kD_flat.app (x := s % 10) tok rfl rfl rfl rfl rfl hw4 hF rfl (by omega) (by omega) (fun v' w5 hF5 hC5 ho5 => ?_)
      (repeat ((conv => whnf); first | refine numP_i64 (by omega) ?_ | refine numP_u64 (by omega) ?_ | refine numP_u8 (by omega) ?_ | refine Exists.intro _ (And.intro ‹_› ?_) | refine Exists.intro _ (And.intro rfl ?_) | refine And.intro (by omega) (Exists.intro _ (And.intro rfl ?_)) | refine And.intro (by omega) ?_)); (conv => whnf)
      rw [tdiv10]
      (repeat ((conv => whnf); first | refine numP_i64 (by omega) ?_ | refine numP_u64 (by omega) ?_ | refine numP_u8 (by omega) ?_ | refine Exists.intro _ (And.intro ‹_› ?_) | refine Exists.intro _ (And.intro rfl ?_) | refine And.intro (by omega) (Exists.intro _ (And.intro rfl ?_)) | refine And.intro (by omega) ?_)); (conv => whnf)
      refine ⟨⟨rfl, rfl⟩, ⟨i + 1, v', by rw [hS]; unfold gPlus10; rw [hs]; rfl, by omega, by rw [hS]; unfold gPlus10; rw [hs]; exact hF5⟩, by simp; omega⟩
    · obtain rfl : i = max xs.length ys.length + 1 := by omega
      have hlen := eachS_len gPlus10 xs ys (max xs.length ys.length + 1)
      obtain ⟨B, d, rfl, _, _⟩ := hF.shape
      (conv => whnf)
      refine (text_ref _ _ _ _ _ w3 hF.read (by omega) (hall _).1).call ?_
      rintro _ w4 ⟨rfl, hE4⟩
      rw [hpl]
      (conv => whnf)
      refine (limited_ref _ w4 (by have := dd_add hx hy; omega)).call ?_
      rintro _ w5 ⟨rfl, rfl⟩
      (conv => whnf)
      exact ⟨rfl, (hE2.trans hF.ext).trans hE4⟩
end Go.Proofs.YtfeegacmmfgjfaaGreatDoorX

/-!  The reference of chapter 2: Mul. -/
set_option linter.unusedVariables false
set_option maxRecDepth 10000
namespace Go.Proofs.YtfeegacmmfgjfaaGreatDoorX
open Go Go.RowKit Go.Proofs Go.Proofs.YtfeegacmmfgjfaaGreatDoorM
theorem lowB10_zero (xs : List Nat) : lowB10 xs 0 = 0 := rfl
theorem mul_ref (x y : Nat) (w : World) (hx : (dd x).length ≤ 400) (hy : (dd y).length ≤ 400) : Ret Tryz.prog 58 #[.string (str (dd x)), .string (str (dd y))] w fun v w' => v = .tuple #[.string (str (dd (x * y))), .int .i64 0] ∧ Ext w w' := by
  refine fn_ret tok Tryz.func58 (by kernel_rfl) rfl rfl ?_
  (conv => whnf)
  refine (valid_dd x _ (by omega)).call ?_
  rintro _ w ⟨rfl, rfl⟩
  (conv => whnf)
  refine (valid_dd y _ (by omega)).call ?_
  rintro _ w ⟨rfl, rfl⟩
  (conv => whnf)
  refine (digits_ref (dd x) w (dd_dig x) (by omega)).call ?_
  intro v1 w1 hF1
  (conv => whnf)
  refine (digits_ref (dd y) w1 (dd_dig y) (by omega)).call ?_
  intro v2 w2 hF2
  obtain ⟨A1, c1, rfl, _, _⟩ := hF1.shape
  obtain ⟨A2, c2, rfl, _, _⟩ := hF2.shape
  have h := (hF1.up hF2.ext).old
  have h' := hF2.old
  have hE2 : Ext w w2 := hF1.ext.trans hF2.ext
  have hxs := dgs_lt (dd_dig x)
  have hys := dgs_lt (dd_dig y)
  have hvx := dgs_val (dd x)
  have hvy := dgs_val (dd y)
  have hlx := dgs_len (dd x)
  have hly := dgs_len (dd y)
  rw [dval_dd] at hvx hvy
  generalize dgs (dd x) = xs at *
  generalize dgs (dd y) = ys at *
  clear hF1 hF2
  (repeat ((conv => whnf); first | refine numP_i64 (by omega) ?_ | refine numP_u64 (by omega) ?_ | refine numP_u8 (by omega) ?_ | refine Exists.intro _ (And.intro ‹_› ?_) | refine Exists.intro _ (And.intro rfl ?_) | refine And.intro (by omega) (Exists.intro _ (And.intro rfl ?_)) | refine And.intro (by omega) ?_)); (conv => whnf)
  have em : ((xs.length : Int) + (ys.length : Int) + 1).toNat = xs.length + ys.length + 1 := by omega
  rw [em]
  refine ⟨rfl, fun b w3 hw => ?_⟩
  have hl3 : Fresh kD 3 w w3 (.slice (some ⟨b, 0, none⟩) (xs.length + ys.length + 1) (xs.length + ys.length + 1)) (List.replicate (xs.length + ys.length + 1) 0) := Fresh.made kD_one (x := 0) hE2 (by omega) hw
  have hx3 : SlR kD (fun i => i < b) w3 (.slice A1 xs.length c1) xs := (h.mono (fun i hi hlt => by rw [hw.hb]; exact hlt)).ext (hw.chg No)
  have hy3 : SlR kD (fun i => i < b) w3 (.slice A2 ys.length c2) ys := (h'.mono (fun i hi hlt => by rw [hw.hb]; exact hlt)).ext (hw.chg No)
  have hbw : w.heap.size ≤ b := by rw [hw.hb]; exact hE2.size
  generalize hN : xs.length + ys.length + 1 = N at *
  have h0 : valB10 (List.replicate N 0) = 0 := tlen_zero10 (tlen_eq (m := 0) (by omega) (fun j _ _ => by rw [List.getD_eq_getElem?_getD, List.getElem?_replicate]; split <;> rfl) (.inl rfl))
  have hyB : y < 10 ^ ys.length := by
    have := valB_lt10 hys
    rwa [hvy] at this
  clear hw h h' hE2
  (conv => whnf)
  refine loop_cut tok 0 [9] [6, 7, 8] []
    (fun vs w' => ∃ (i : Nat) (ls : List Nat), vs = [.int .i64 i] ∧ i ≤ xs.length ∧ Fresh kD 3 w w' (.slice (some ⟨b, 0, none⟩) N N) ls ∧ ls.length = N ∧ (∀ z ∈ ls, z < 10) ∧ valB10 ls = lowB10 xs i * y ∧
      SlR kD (fun i => i < b) w' (.slice A1 xs.length c1) xs ∧ SlR kD (fun i => i < b) w' (.slice A2 ys.length c2) ys)
    (fun vs w => match vs with | [.int _ i] => xs.length - i.toNat | _ => 0)
    (fun vs w' => vs = [] ∧ ∃ (ls : List Nat), Fresh kD 3 w w' (.slice (some ⟨b, 0, none⟩) N N) ls ∧ ls.length = N ∧ (∀ z ∈ ls, z < 10) ∧ valB10 ls = x * y) ?_
  (conv => whnf)
  refine ⟨?_, ?_, ?_⟩
  · (conv => whnf)
    exact ⟨0, _, rfl, by omega, hl3, by rw [List.length_replicate], fun z hz => by have := List.eq_of_mem_replicate hz; omega, by rw [h0, lowB10, Nat.zero_mul], hx3, hy3⟩
  · clear hl3 hx3 hy3 h0
    rintro _ w4 ⟨i, zs, rfl, hi, hf, hlen, hzs, hval, hxr, hyr⟩
    (conv => whnf)
    refine condP_dec (fun h1 => ?_) (fun h1 => ?_)
    · (repeat ((conv => whnf); first | refine numP_i64 (by omega) ?_ | refine numP_u64 (by omega) ?_ | refine numP_u8 (by omega) ?_ | refine Exists.intro _ (And.intro ‹_› ?_) | refine Exists.intro _ (And.intro rfl ?_) | refine And.intro (by omega) (Exists.intro _ (And.intro rfl ?_)) | refine And.intro (by omega) ?_)); (conv => whnf)
      have bxi := getD_lt10 hxs i
      refine loop_cut tok 2 [10, 11] [6, 7, 8, 9] []
        (fun vs w' => ∃ (c k : Nat) (ls : List Nat), vs = [.int .i64 c, .int .i64 k] ∧ k ≤ ys.length + 1 ∧ c < 10 ∧ Fresh kD 3 w w' (.slice (some ⟨b, 0, none⟩) N N) ls ∧ ls.length = N ∧ (∀ z ∈ ls, z < 10) ∧ (∀ j, j < i ∨ i + k ≤ j → ls.getD j 0 = zs.getD j 0) ∧
          lowB10 (ls.drop i) k + 10 ^ k * c = lowB10 (zs.drop i) k + xs.getD i 0 * lowB10 ys k ∧ SlR kD (fun i => i < b) w' (.slice A1 xs.length c1) xs ∧ SlR kD (fun i => i < b) w' (.slice A2 ys.length c2) ys)
        (fun vs w => match vs with | [_, .int _ k] => ys.length + 1 - k.toNat | _ => 0)
        (fun vs w' => vs = [] ∧ ∃ (c : Nat) (ls : List Nat), Fresh kD 3 w w' (.slice (some ⟨b, 0, none⟩) N N) ls ∧ ls.length = N ∧ (∀ z ∈ ls, z < 10) ∧ (∀ j, j < i ∨ i + ys.length + 1 ≤ j → ls.getD j 0 = zs.getD j 0) ∧
          lowB10 (ls.drop i) (ys.length + 1) + 10 ^ (ys.length + 1) * c = lowB10 (zs.drop i) (ys.length + 1) + xs.getD i 0 * y ∧ SlR kD (fun i => i < b) w' (.slice A1 xs.length c1) xs ∧ SlR kD (fun i => i < b) w' (.slice A2 ys.length c2) ys) ?_
      (conv => whnf)
      refine ⟨?_, ?_, ?_⟩
      · (conv => whnf)
        exact ⟨0, 0, zs, rfl, by omega, by omega, hf, hlen, hzs, fun _ _ => rfl, by simp only [lowB10, Nat.mul_zero], hxr, hyr⟩
      · clear hf hxr hyr
        rintro _ w5 ⟨cy, k, ls, rfl, hk, hcy, hf, hlen2, hls, hoth, hval2, hxr, hyr⟩
        (conv => whnf)
        refine condP_dec (fun h2 => ?_) (fun h2 => ?_)
        · have hE5 : Ext w5 w5.drew := Chg.drew _ _
          have hf := hf.up hE5
          have hxr := hxr.ext hE5
          have hyr := hyr.ext hE5
          have cl2 := hf.cell kD_one (j := i + k) (by omega) 0
          have bl := getD_lt10 hls (i + k)
          have byk := getD_lt10 hys k
          have el : ls.getD (i + k) 0 = zs.getD (i + k) 0 := hoth _ (by omega)
          have hms := mul_step10 (P := 10 ^ k) (l := ls.getD (i + k) 0) (yk := ys.getD k 0) hval2 bl bxi byk hcy
          obtain ⟨ad1, rfl, cx1⟩ := hxr.d i (by omega)
          have hmm : xs.getD i 0 * ys.getD k 0 ≤ 9 * 9 := Nat.mul_le_mul (by omega) (by omega)
          have hmI : ((xs.getD i 0 : Nat) : Int) * ((ys.getD k 0 : Nat) : Int) = ((xs.getD i 0 * ys.getD k 0 : Nat) : Int) := (Int.natCast_mul _ _).symm
          have cl1 : w5.drew.cell? ((⟨b, 0, none⟩ : Addr).add (((i : Int) + (k : Int)).toNat * 1)) = some (.int .i64 ((ls.getD (i + k) 0 : Nat) : Int)) := by
            rw [addr_add, Nat.mul_one, show ((i : Int) + (k : Int)).toNat = i + k by omega, Nat.zero_add]; exact cl2.1
          have cx2 : w5.drew.cell? (ad1.add ((i : Int).toNat * 1)) = some (.int .i64 ((xs.getD i 0 : Nat) : Int)) := by
            rw [Int.toNat_natCast]; exact cx1
          have es : ((ls.getD (i + k) 0 : Nat) : Int) + ((xs.getD i 0 * ys.getD k 0 : Nat) : Int) + (cy : Int) = ((ls.getD (i + k) 0 + cy + xs.getD i 0 * ys.getD k 0 : Nat) : Int) := by omega
          (repeat ((conv => whnf); first | refine numP_i64 (by omega) ?_ | refine numP_u64 (by omega) ?_ | refine numP_u8 (by omega) ?_ | refine Exists.intro _ (And.intro ‹_› ?_) | refine Exists.intro _ (And.intro rfl ?_) | refine And.intro (by omega) (Exists.intro _ (And.intro rfl ?_)) | refine And.intro (by omega) ?_)); (conv => whnf)
          refine draw_read tok mixed (by decide +kernel) ?_
          (repeat ((conv => whnf); first | refine numP_i64 (by omega) ?_ | refine numP_u64 (by omega) ?_ | refine numP_u8 (by omega) ?_ | refine Exists.intro _ (And.intro (fun _ h => (congrArg (fun w => World.cell? w _) h).trans ‹_›) ?_) | refine And.intro (by omega) (Exists.intro _ (And.intro rfl ?_)) | refine And.intro (by omega) ?_)); (conv => whnf)
          refine ⟨_, fun w3 h3 => (at_ref (fun i => i < b) _ _ _ ys k w3 (by obtain rfl : w3 = w5.drew := h3; exact hyr)).call (fun v w' ⟨hv, hw⟩ => ⟨hv, by rw [hw]; exact h3⟩), ?_⟩
          (repeat ((conv => whnf); first | refine numP_i64 (by omega) ?_ | refine numP_u64 (by omega) ?_ | refine numP_u8 (by omega) ?_ | refine Exists.intro _ (And.intro (fun _ h => (congrArg (fun w => World.cell? w _) h).trans ‹_›) ?_) | refine And.intro (by omega) (Exists.intro _ (And.intro rfl ?_)) | refine And.intro (by omega) ?_)); (conv => whnf)
          rw [hmI]
          (repeat ((conv => whnf); first | refine numP_i64 (by omega) ?_ | refine numP_u64 (by omega) ?_ | refine numP_u8 (by omega) ?_ | refine Exists.intro _ (And.intro (fun _ h => (congrArg (fun w => World.cell? w _) h).trans ‹_›) ?_) | refine And.intro (by omega) (Exists.intro _ (And.intro rfl ?_)) | refine And.intro (by omega) ?_)); (conv => whnf)
          rintro _ rfl
          (conv => whnf)
          rw [es]
          generalize hp : ls.getD (i + k) 0 + cy + xs.getD i 0 * ys.getD k 0 = p at *
          (repeat ((conv => whnf); first | refine numP_i64 (by omega) ?_ | refine numP_u64 (by omega) ?_ | refine numP_u8 (by omega) ?_ | refine Exists.intro _ (And.intro ‹_› ?_) | refine Exists.intro _ (And.intro rfl ?_) | refine And.intro (by omega) (Exists.intro _ (And.intro rfl ?_)) | refine And.intro (by omega) ?_)); (conv => whnf)
          rw [tmod10]
          (repeat ((conv => whnf); first | refine numP_i64 (by omega) ?_ | refine numP_u64 (by omega) ?_ | refine numP_u8 (by omega) ?_ | refine Exists.intro _ (And.intro ‹_› ?_) | refine Exists.intro _ (And.intro rfl ?_) | refine And.intro (by omega) (Exists.intro _ (And.intro rfl ?_)) | refine And.intro (by omega) ?_)); (conv => whnf)
          refine ⟨rfl, trivial, ⟨_, cl1, ?_⟩, fun w6 hw6 => ?_⟩
          · rw [addr_add, Nat.mul_one, show ((i : Int) + (k : Int)).toNat = i + k by omega, Nat.zero_add]; exact cl2.2
          rw [addr_add, Nat.mul_one, show ((i : Int) + (k : Int)).toNat = i + k by omega, Nat.zero_add] at hw6
          have hf2 := hf.set kD_one (j := i + k) (by omega) (p % 10) hw6
          have hC := hw6.chg (fun i => i = b) rfl
          have hxr2 := hxr.chg hC (fun j hj hm => by omega)
          have hyr2 := hyr.chg hC (fun j hj hm => by omega)
          (repeat ((conv => whnf); first | refine numP_i64 (by omega) ?_ | refine numP_u64 (by omega) ?_ | refine numP_u8 (by omega) ?_ | refine Exists.intro _ (And.intro ‹_› ?_) | refine Exists.intro _ (And.intro rfl ?_) | refine And.intro (by omega) (Exists.intro _ (And.intro rfl ?_)) | refine And.intro (by omega) ?_)); (conv => whnf)
          rw [tdiv10]
          (repeat ((conv => whnf); first | refine numP_i64 (by omega) ?_ | refine numP_u64 (by omega) ?_ | refine numP_u8 (by omega) ?_ | refine Exists.intro _ (And.intro ‹_› ?_) | refine Exists.intro _ (And.intro rfl ?_) | refine And.intro (by omega) (Exists.intro _ (And.intro rfl ?_)) | refine And.intro (by omega) ?_)); (conv => whnf)
          refine ⟨⟨rfl, rfl⟩, ⟨_, k + 1, ls.set (i + k) (p % 10), rfl, by omega, hms.2.1, hf2, by rw [List.length_set]; exact hlen2, set_all10 hls (Nat.mod_lt _ (by decide)), fun j hj => ?_, ?_, hxr2, hyr2⟩, by simp; omega⟩
          · rw [getD_set_other _ _ (by omega)]; exact hoth j (by omega)
          · rw [low_set10 (by omega), lowB10, lowB10, getD_drop, Nat.pow_succ, ← el]; exact hms.1
        · obtain rfl : k = ys.length + 1 := by omega
          have hyn : lowB10 ys (ys.length + 1) = y := by rw [lowB_all10 _ _ (by omega), hvy]
          rw [hyn] at hval2
          (repeat ((conv => whnf); first | refine numP_i64 (by omega) ?_ | refine numP_u64 (by omega) ?_ | refine numP_u8 (by omega) ?_ | refine Exists.intro _ (And.intro ‹_› ?_) | refine Exists.intro _ (And.intro rfl ?_) | refine And.intro (by omega) (Exists.intro _ (And.intro rfl ?_)) | refine And.intro (by omega) ?_)); (conv => whnf)
          exact ⟨⟨rfl, rfl⟩, rfl, cy, ls, hf, hlen2, hls, fun j hj => hoth j (by omega), hval2, hxr, hyr⟩
      clear hf hxr hyr
      rintro _ w5 ⟨rfl, cy, ls, hf, hlen2, hls, hoth, hval2, hxr, hyr⟩
      (repeat ((conv => whnf); first | refine numP_i64 (by omega) ?_ | refine numP_u64 (by omega) ?_ | refine numP_u8 (by omega) ?_ | refine Exists.intro _ (And.intro ‹_› ?_) | refine Exists.intro _ (And.intro rfl ?_) | refine And.intro (by omega) (Exists.intro _ (And.intro rfl ?_)) | refine And.intro (by omega) ?_)); (conv => whnf)
      have hVlt : lowB10 xs i * y < 10 ^ (i + ys.length) := by
        rw [Nat.pow_add]
        rcases Nat.eq_zero_or_pos y with h0 | h0
        · rw [h0, Nat.mul_zero]; exact Nat.mul_pos (Nat.pow_pos (by decide)) (Nat.pow_pos (by decide))
        · exact Nat.mul_lt_mul'' (low_lt10 hxs i) hyB
      have hrow := mul_row10 hzs hls (by omega) (by omega) hoth hval2 bxi hyB hval hVlt
      refine ⟨⟨rfl, rfl⟩, ⟨i + 1, ls, rfl, by omega, hf, hlen2, hls, ?_, hxr, hyr⟩, by simp; omega⟩
      rw [hrow, lowB10, Nat.add_mul, Nat.mul_assoc]
    · obtain rfl : i = xs.length := by omega
      rw [lowB_all10 _ _ (Nat.le_refl _), hvx] at hval
      (repeat ((conv => whnf); first | refine numP_i64 (by omega) ?_ | refine numP_u64 (by omega) ?_ | refine numP_u8 (by omega) ?_ | refine Exists.intro _ (And.intro ‹_› ?_) | refine Exists.intro _ (And.intro rfl ?_) | refine And.intro (by omega) (Exists.intro _ (And.intro rfl ?_)) | refine And.intro (by omega) ?_)); (conv => whnf)
      exact ⟨⟨rfl, rfl⟩, rfl, zs, hf, hlen, hzs, hval⟩
  clear hl3 hx3 hy3 h0
  rintro _ w4 ⟨rfl, ls, hf, hlen, hls, hval⟩
  (conv => whnf)
  subst hlen
  refine (text_ref _ _ _ _ ls w4 hf.read (by omega) hls).call ?_
  rintro _ w5 ⟨rfl, hE⟩
  rw [hval]
  (conv => whnf)
  refine (limited_ref _ w5 (by have := dd_mul hx hy; omega)).call ?_
  rintro _ w5 ⟨rfl, rfl⟩
  (conv => whnf)
  exact ⟨rfl, hf.ext.trans hE⟩
end Go.Proofs.YtfeegacmmfgjfaaGreatDoorX
