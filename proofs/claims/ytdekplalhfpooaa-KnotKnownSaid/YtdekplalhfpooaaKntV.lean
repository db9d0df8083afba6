/- Knots: slices.Insert of one number into a row of one's own, by its contract (every input). -/
import Derived.BigQuiet
import Derived.Deep.RegionLaw
import Derived.Shelf.Spec.SlicesInsert
import Derived.Lib.AppendZerosOnto
import Derived.Test.YtdekplalhfpooaaKntU
set_option linter.unusedVariables false
set_option linter.unusedSimpArgs false
namespace Go.Proofs.Ytdekplalhfpooaa.Knt
open Go Go.RowKit Go.Proofs.YtdekplalhfpooaaW.PrintWords Go.Proofs.YtdekplalhfpooaaW.PrintLast Go.Proofs.YtdekplalhfpooaaW.PrintMore Base Odr Hlp Nod Go.Proofs.Ytdekplalhfpooaa.Inv

theorem one_at (b : Bool) (x y : Int) (w : World) : Calls Try.prog 60 #[.bool b, .int .u64 x, .int .u64 y] w fun e w' => e = .returned (.int .u64 (if b = true then x else y)) ∧ w = w' := by
  cases b
  · go_enter Try.func60, Try.ntmps60
    go_wp2_with fail
    go_ret
    exact ⟨rfl, rfl⟩
  · go_enter Try.func60, Try.ntmps60
    go_wp2_with fail
    go_ret
    exact ⟨rfl, rfl⟩
theorem nums_take (K : List Int) (i : Nat) : nums .u64 (K.take i) = (nums .u64 K).take i := by unfold nums; rw [List.map_take]
theorem nums_drop (K : List Int) (i : Nat) : nums .u64 (K.drop i) = (nums .u64 K).drop i := by unfold nums; rw [List.map_drop]
theorem nums_len (K : List Int) : (nums .u64 K).length = K.length := by unfold nums; rw [List.length_map]
/-- A row into which one is put: first what stands behind is moved, or laid, then the one. -/
theorem ins_list {R Y : List Value} {X : List Value} {u : Value} {i q c : Nat} (hR : R.length = c) (hX : R.take i = X) (hY : Y.length = q - i) (hi : i < q) (hc : q + 1 ≤ c) :
    (R.take (i + 1) ++ Y ++ R.drop (i + 1 + Y.length)).length = c ∧
    ((R.take (i + 1) ++ Y ++ R.drop (i + 1 + Y.length)).take i ++ [u] ++ (R.take (i + 1) ++ Y ++ R.drop (i + 1 + Y.length)).drop (i + 1)).length = c ∧
    ((R.take (i + 1) ++ Y ++ R.drop (i + 1 + Y.length)).take i ++ [u] ++ (R.take (i + 1) ++ Y ++ R.drop (i + 1 + Y.length)).drop (i + 1)).take (q + 1) = X ++ u :: Y := by
  have hl : (R.take (i + 1)).length = i + 1 := by rw [List.length_take]; omega
  have e1 : (R.take (i + 1) ++ Y ++ R.drop (i + 1 + Y.length)).take i = X := by
    rw [List.append_assoc, List.take_append_of_le_length (by omega), List.take_take, Nat.min_eq_left (by omega), hX]
  have e2 : (R.take (i + 1) ++ Y ++ R.drop (i + 1 + Y.length)).drop (i + 1) = Y ++ R.drop (i + 1 + Y.length) := by
    rw [List.append_assoc, List.drop_append, List.drop_eq_nil_of_le (by omega), hl, Nat.sub_self]; rfl
  have hXl : X.length = i := by rw [← hX, List.length_take]; omega
  refine ⟨?_, ?_, ?_⟩
  · rw [List.length_append, List.length_append, List.length_drop, hl]; omega
  · rw [e1, e2, List.length_append, List.length_append, List.length_append, List.length_drop, hXl, List.length_singleton]; omega
  · rw [e1, e2, List.append_assoc, List.take_append, List.take_of_length_le (by omega), hXl]
    congr 1
    rw [show q + 1 - i = (q - i) + 1 by omega, List.singleton_append, List.take_succ_cons, List.take_append_of_le_length (by omega), List.take_of_length_le (by omega)]
theorem ins_list2 {R Y : List Value} {X : List Value} {u : Value} {i q c : Nat} (hR : R.length = c) (hX : R.take i = X) (hY : Y.length = q - i) (hi : i < q) (hc : q + 1 ≤ c) :
    (R.take i ++ [u] ++ R.drop (i + 1)).length = c ∧
    ((R.take i ++ [u] ++ R.drop (i + 1)).take (i + 1) ++ Y ++ (R.take i ++ [u] ++ R.drop (i + 1)).drop (i + 1 + Y.length)).length = c ∧
    ((R.take i ++ [u] ++ R.drop (i + 1)).take (i + 1) ++ Y ++ (R.take i ++ [u] ++ R.drop (i + 1)).drop (i + 1 + Y.length)).take (q + 1) = X ++ u :: Y := by
  have hXl : X.length = i := by rw [← hX, List.length_take]; omega
  have l1 : (R.take i ++ [u] ++ R.drop (i + 1)).length = c := by rw [List.length_append, List.length_append, List.length_drop, hX, hXl, List.length_singleton]; omega
  have e1 : (R.take i ++ [u] ++ R.drop (i + 1)).take (i + 1) = X ++ [u] := by
    rw [hX, List.take_append_of_le_length (by rw [List.length_append, hXl, List.length_singleton]; omega), List.take_of_length_le (by rw [List.length_append, hXl, List.length_singleton]; omega)]
  refine ⟨l1, ?_, ?_⟩
  · rw [e1, List.length_append, List.length_append, List.length_append, List.length_drop, l1, hXl, List.length_singleton]; omega
  · rw [e1, List.take_append_of_le_length (by rw [List.length_append, List.length_append, hXl, List.length_singleton]; omega), List.take_of_length_le (by rw [List.length_append, List.length_append, hXl, List.length_singleton]; omega)]
    simp
/-- What an insertion leaves. -/
def INS (w w' : World) (e : Ending) (base : Nat) (ob : Option Nat) (n : Nat) (xs : List Int) : Prop :=
  ∃ A' c', e = .returned (.slice A' n c') ∧ w'.ownsRow base 25 1 (.slice A' n c') n (nums .u64 xs) ∧ Below base w w' ∧ w.grownBy w' ob ∧ ((Value.slice A' n c').ownBlock = ob ∨ ∃ p, (Value.slice A' n c').ownBlock = some p ∧ w.heap.size ≤ p)
set_option maxRecDepth 100000 in
set_option maxHeartbeats 1600000 in
theorem insert_end (A : Option Addr) (c q gv base : Nat) (K : List Int) (y : Int) (w : World) (ho : w.ownsRow base 25 1 (.slice A q c) q (nums .u64 K)) (hK : K.length = q) (hg : w.heap[gv]? = some (.cells #[.int .u64 y] 25)) (hb : base ≤ w.heap.size) (hs : (q + 1) * 8 ≤ 140737488355328) :
    Calls Try.prog 59 #[.slice A q c, .int .i64 (q : Int), .slice (some ⟨gv, 0, none⟩) 1 1] w fun e w' => INS w w' e base (Value.slice A q c).ownBlock (q + 1) (K ++ [y]) := by
  obtain ⟨A1, c1, W1, hr, h2, h3, h4⟩ := app_row (c := 1) ho hK (reads1 hg) hs hb (fun h => by cases h)
  have hbel := pw_below_grown (Below.refl base w) _ hb h3 (fun k hk => own_base ho k hk)
  have HO := Lib.hid (And.intro h2 (And.intro h3 (And.intro h4 hbel)))
  have HC := Lib.hid (And.intro (own_cap ho) (own_nilc ho))
  have hq9 : q ≤ 9223372036854775807 := by omega
  have hqc : q ≤ c := HC.out.1
  clear ho h2 h3 h4 hg hbel hs hb hK
  go_enter Try.func59, Try.ntmps59
  cases A with
  | none =>
    obtain ⟨rfl, rfl⟩ := HC.out.2 rfl
    go_wp2_with (at_builtin; refine Lib.wpList_append_run _ rfl _ _ _ _ rfl _ _ rfl rfl _ _ (hr _) ?_)
    go_ret
    exact ⟨A1, c1, rfl, HO.out.1, HO.out.2.2.2, HO.out.2.1, HO.out.2.2.1.imp id (fun h => ⟨_, h, Nat.le_refl _⟩)⟩
  | some a =>
    obtain ⟨ab, ao, asp⟩ := a
    go_wp2_with (at_builtin; refine Lib.wpList_append_run _ rfl _ _ _ _ rfl _ _ rfl rfl _ _ (hr _) ?_)
    all_goals
      go_ret
      exact ⟨A1, c1, rfl, HO.out.1, HO.out.2.2.2, HO.out.2.1, HO.out.2.2.1.imp id (fun h => ⟨_, h, Nat.le_refl _⟩)⟩
theorem row_cells {W : World} {g i q : Nat} {cur : Array Value} {K : List Int} (hg : W.heap[g]? = some (.cells cur 25 (0, 0))) (ht : cur.toList.take q = nums .u64 K) (hK : K.length = q) :
    ∀ j v, (nums .u64 (K.drop i))[j]? = some v → W.cell? ((⟨g, i, none⟩ : Addr).add j) = some v := by
  intro j v hv
  have ha : (⟨g, i, none⟩ : Addr).add j = ⟨g, i + j, none⟩ := by unfold Addr.add; split <;> simp_all
  rw [ha, cell_of_row W g (i + j) _ _ _ hg]
  rw [nums_drop, List.getElem?_drop, ← ht, List.getElem?_take] at hv
  split at hv
  · rw [← Array.getElem?_toList]; exact hv
  · cases hv
theorem ov_false {w : World} {g gv i : Nat} {cur : Array Value} {y : Int} (hg : w.heap[g]? = some (.cells cur 25 (0, 0))) (hv : w.heap[gv]? = some (.cells #[.int .u64 y] 25)) (hne : gv ≠ g) (hc : cur.size ≠ 0) :
    ∀ lb cb, (callFunc 69 #[.slice (some ⟨gv, 0, none⟩) 1 1, .slice (some ⟨g, i, none⟩) lb cb]).run Try.prog w = .ok (.value (.bool false)) w := fun lb cb => by
  have hsa : w.shape? gv = some (25, 1) := by unfold World.shape?; rw [hv]; rfl
  have hsb : w.shape? g = some (25, cur.size) := by unfold World.shape?; rw [hg]
  rw [run_callFunc_extern Try.func69 (by kernel_rfl) (by kernel_rfl) (by kernel_rfl) (e := Extern.SlicesOverlaps.overlaps #[22, 22] #[4]) (by kernel_rfl),
    Lib.run_overlaps_apart w 22 4 25 Try.underlying22 1 (fun _ => by kernel_rfl) ⟨gv, 0, none⟩ ⟨g, i, none⟩ 1 1 lb cb hne 25 25 1 cur.size hsa hsb hc (blk_frozen hv 0) (blk_frozen hv 1)]
  rfl
set_option maxRecDepth 100000 in
set_option maxHeartbeats 3200000 in
theorem insert_room (A : Option Addr) (c q i gv base : Nat) (K : List Int) (y : Int) (w : World) (ho : w.ownsRow base 25 1 (.slice A q c) q (nums .u64 K)) (hK : K.length = q) (hg : w.heap[gv]? = some (.cells #[.int .u64 y] 25)) (hne : ∀ a, A = some a → gv ≠ a.block) (hi : i < q) (hr : q + 1 ≤ c) (hb : base ≤ w.heap.size) (hs : (q + 1) * 8 ≤ 140737488355328) :
    Calls Try.prog 59 #[.slice A q c, .int .i64 (i : Int), .slice (some ⟨gv, 0, none⟩) 1 1] w fun e w' => INS w w' e base (Value.slice A q c).ownBlock (q + 1) (K.take i ++ y :: K.drop i) := by
  rcases ho.2 with ⟨hv, h0⟩ | ⟨g, cap, cur, hv, hge, hh, hn, hm, hsz, ht⟩
  · omega
  injection hv with e1 e2 e3
  subst e1; subst e3
  rw [Nat.mul_one] at hsz ht
  have hgv : gv ≠ g := hne _ rfl
  have hov := ov_false (i := i + 1) hh hg hgv (by omega)
  have hR : cur.toList.length = c := by rw [Array.length_toList]; exact hsz
  have hX : cur.toList.take i = nums .u64 (K.take i) := by rw [nums_take, ← ht, List.take_take, Nat.min_eq_left (by omega)]
  have hYl : (nums .u64 (K.drop i)).length = q - i := by rw [nums_len, List.length_drop, hK]
  obtain ⟨l1, l2, l3⟩ := ins_list (u := .int .u64 y) hR hX hYl hi hr
  have hsz1 : (Try.prog.info? 25).map (·.size) = some 1 := by kernel_rfl
  have hcp1 := fun ty dc sc => run_copy_row (P := Try.prog) w.drew 22 22 ty 25 g (i + 1) (q - i) dc ⟨g, i, none⟩ (q + 1 - i) sc cur 25 (nums .u64 (K.drop i)) Try.underlying22 hsz1 hh (by rw [hYl]; simp only [Nat.min_def]; split <;> omega) (row_cells (W := w.drew) hh ht hK) (by rw [hYl]; omega) (nums_one _)
  have hh1 := setRow_heap w.drew g _ (cur.toList.take (i + 1) ++ nums .u64 (K.drop i) ++ cur.toList.drop (i + 1 + (nums .u64 (K.drop i)).length)).toArray _ _ hh
  have hg1 : (w.drew.setRow g (cur.toList.take (i + 1) ++ nums .u64 (K.drop i) ++ cur.toList.drop (i + 1 + (nums .u64 (K.drop i)).length)).toArray).heap[gv]? = some (.cells #[.int .u64 y] 25) := by rw [setRow_other _ _ _ _ hgv]; exact hg
  have hgr1 : w.grownBy (w.drew.setRow g (cur.toList.take (i + 1) ++ nums .u64 (K.drop i) ++ cur.toList.drop (i + 1 + (nums .u64 (K.drop i)).length)).toArray) (some g) := ⟨rfl, rfl, rfl, by rw [setRow_size]; exact Nat.le_refl _, fun k hk hkg => setRow_other _ _ _ _ (fun h => hkg (by rw [h]))⟩
  obtain ⟨W1, hW1⟩ : ∃ W1, w.drew.setRow g (cur.toList.take (i + 1) ++ nums .u64 (K.drop i) ++ cur.toList.drop (i + 1 + (nums .u64 (K.drop i)).length)).toArray = W1 := ⟨_, rfl⟩
  rw [hW1] at hcp1 hh1 hg1 hgr1
  obtain ⟨R1, hR1⟩ : ∃ R1, cur.toList.take (i + 1) ++ nums .u64 (K.drop i) ++ cur.toList.drop (i + 1 + (nums .u64 (K.drop i)).length) = R1 := ⟨_, rfl⟩
  rw [hR1] at hh1 l1 l2 l3
  have hcp2 := fun ty dc => run_copy_row (P := Try.prog) W1 22 22 ty 25 g i (q + 1 - i) dc ⟨gv, 0, none⟩ 1 1 R1.toArray 25 (nums .u64 [y]) Try.underlying22 hsz1 hh1 (by rw [nums_len]; simp only [Nat.min_def, List.length_singleton]; split <;> omega) (reads_cells (reads1 hg1)) (by simp only [nums_len, List.length_singleton, List.size_toArray, l1]; omega) (nums_one _)
  have hh2 := setRow_heap W1 g _ (R1.toArray.toList.take i ++ nums .u64 [y] ++ R1.toArray.toList.drop (i + (nums .u64 [y]).length)).toArray _ _ hh1
  have hgr2 : W1.grownBy (W1.setRow g (R1.toArray.toList.take i ++ nums .u64 [y] ++ R1.toArray.toList.drop (i + (nums .u64 [y]).length)).toArray) (some g) := ⟨rfl, rfl, rfl, by rw [setRow_size]; exact Nat.le_refl _, fun k hk hkg => setRow_other _ _ _ _ (fun h => hkg (by rw [h]))⟩
  obtain ⟨W2, hW2⟩ : ∃ W2, W1.setRow g (R1.toArray.toList.take i ++ nums .u64 [y] ++ R1.toArray.toList.drop (i + (nums .u64 [y]).length)).toArray = W2 := ⟨_, rfl⟩
  rw [hW2] at hcp2 hh2 hgr2
  have own2 : W2.ownsRow base 25 1 (.slice (some ⟨g, 0, none⟩) (q + 1) c) (q + 1) (nums .u64 (K.take i ++ y :: K.drop i)) := by
    refine ⟨by rw [nums_len, List.length_append, List.length_cons, List.length_take, List.length_drop]; omega, .inr ⟨g, c, _, rfl, hge, hh2, hr, hm, ?_, ?_⟩⟩
    · rw [List.size_toArray]; exact (Nat.mul_one c).symm ▸ l2
    · rw [Nat.mul_one, List.toList_toArray]
      have e : nums .u64 (K.take i ++ y :: K.drop i) = nums .u64 (K.take i) ++ .int .u64 y :: nums .u64 (K.drop i) := by unfold nums; rw [List.map_append, List.map_cons]
      rw [e]; exact l3
  have gr2 : w.grownBy W2 (some g) := hgr1.trans hgr2
  have hbel := pw_below_grown (Below.refl base w) _ hb gr2 (fun k hk => by injection hk with hk; omega)
  have HO := Lib.hid (And.intro own2 (And.intro gr2 hbel))
  have hc63 : c ≤ 9223372036854775807 := by unfold maxLen at hm; omega
  have hz2 : ¬ ((i : Int) = (q : Int)) := by omega
  have hin : i ≤ q := by omega
  have hw1 : IntKind.i64.wrap ((i : Int) + 1) = (i : Int) + 1 := by rw [IntKind.wrap_i64]; omega
  have hb1 : (0 : Int) ≤ (i : Int) + 1 := by omega
  have htn : ((i : Int) + 1).toNat = i + 1 := by omega
  have hb2 : ¬ (c = i + 1) := by omega
  have hb3 : (i : Int) ≤ (q : Int) + 1 := by omega
  have hb4 : ¬ (c = i) := by omega
  clear ho hh ht hsz hR hX hYl l1 l2 l3 hsz1 hh1 hg1 hgr1 hW1 hR1 hh2 hgr2 hW2 own2 gr2 hbel hg hne hs hm hge hb hK
  go_enter Try.func59, Try.ntmps59
  go_wp2_with (simp only [hov])
  go_region_law (refine step_copy_runI rfl _ _ 22 22 rfl _ _ (by simp [Act.eval, Act.put]) (by simp [Act.eval, Act.put]) (hcp1 _ _ _) ?_)
  go_wp2_with (at_builtin; refine wpList_copy_runI _ rfl _ _ 22 22 rfl _ _ rfl rfl (hcp2 _ _) ?_)
  go_ret
  exact ⟨some ⟨g, 0, none⟩, c, rfl, HO.out.1, HO.out.2.2, HO.out.2.1, .inl rfl⟩
set_option maxRecDepth 100000 in
set_option maxHeartbeats 3200000 in
theorem insert_grow (A : Option Addr) (c q i gv base : Nat) (K : List Int) (y : Int) (w : World) (ho : w.ownsRow base 25 1 (.slice A q c) q (nums .u64 K)) (hK : K.length = q) (hg : w.heap[gv]? = some (.cells #[.int .u64 y] 25)) (hi : i < q) (hr : c < q + 1) (hb : base ≤ w.heap.size) (hs : (q + 1) * 8 ≤ 140737488355328) :
    Calls Try.prog 59 #[.slice A q c, .int .i64 (i : Int), .slice (some ⟨gv, 0, none⟩) 1 1] w fun e w' => INS w w' e base (Value.slice A q c).ownBlock (q + 1) (K.take i ++ y :: K.drop i) := by
  rcases ho.2 with ⟨hv, h0⟩ | ⟨g, cap, cur, hv, hge, hh, hn, hm, hsz, ht⟩
  · omega
  injection hv with e1 e2 e3
  subst e1; subst e3
  clear e2
  rw [Nat.mul_one] at hsz ht
  obtain ⟨i0, hi0, hz0, hzs, hzb⟩ := info64'
  have hsz1 : (Try.prog.info? 25).map (·.size) = some 1 := by kernel_rfl
  have hgl : g < w.heap.size := (Array.getElem?_eq_some_iff.1 hh).1
  have hgvl : gv < w.heap.size := (Array.getElem?_eq_some_iff.1 hg).1
  have hkk : (q : Int) + 1 - (i : Int) = ((q + 1 - i : Nat) : Int) := by omega
  have hik : i + (q + 1 - i) = q + 1 := by omega
  have hX : cur.toList.take i = nums .u64 (K.take i) := by rw [nums_take, ← ht, List.take_take, Nat.min_eq_left (by omega)]
  have hXl : (nums .u64 (K.take i)).length = i := by rw [nums_len, List.length_take, hK]; omega
  have hYl : (nums .u64 (K.drop i)).length = q - i := by rw [nums_len, List.length_drop, hK]
  have hold : (Builtin.firstCells i0.size i (.slice (some ⟨g, 0, none⟩) i c)).run Try.prog w.drew = .ok (nums .u64 (K.take i)).toArray w.drew := by
    rw [hzs]
    refine run_firstCells_some w.drew 1 i ⟨g, 0, none⟩ i c _ (by rw [hXl]; omega) (fun j v hj => ?_)
    have h1 := row_cells (W := w) (i := 0) hh ht hK j v (by
      rw [List.drop_zero, ← ht]
      rw [← hX, List.getElem?_take] at hj
      split at hj
      · rw [List.getElem?_take, if_pos (by omega)]; exact hj
      · cases hj)
    exact h1
  have hrz := fun ty => by
    have h := Lib.run_append_grow_zeros (P := Try.prog) w 22 3 ty 25 i0 _ .i64 .i64 Try.underlying22 Try.underlying3 hi0 hz0 (some ⟨g, 0, none⟩) i c _ hold (q + 1 - i) (by omega) (by omega) (by omega) (by omega) (by rw [hzb]; omega) (by rw [hzb, hik]; exact growslice_fits hr hs)
    rw [hik] at h
    rw [← hkk] at h
    exact h
  obtain ⟨G, hG⟩ : ∃ G, grownCap w (q + 1) c 25 = G := ⟨_, rfl⟩
  obtain ⟨ROW, hROW⟩ : ∃ ROW : Array Value, (nums .u64 (K.take i)).toArray ++ Builtin.zeroCells (Value.int .u64 0).cells (q + 1 - i) ++ Builtin.zeroCells (Value.int .u64 0).cells (G - (q + 1)) = ROW := ⟨_, rfl⟩
  rw [hG] at hrz
  rw [hROW] at hrz
  have hGn : q + 1 ≤ G := by rw [← hG]; exact grownCap_ge w _ _ _
  have hGm : G ≤ maxLen := by rw [← hG]; exact grownCap_le_maxLen w (q + 1) c 25 (by unfold maxLen; omega)
  have hRl : ROW.toList.length = G := by
    rw [← hROW]
    simp [Builtin.zeroCells, Value.cells, hXl]
    omega
  have hRX : ROW.toList.take i = nums .u64 (K.take i) := by
    rw [← hROW, Array.toList_append, Array.toList_append, List.append_assoc, List.toList_toArray, List.take_append_of_le_length (by omega), List.take_of_length_le (by omega)]
  obtain ⟨l1, l2, l3⟩ := ins_list2 (u := .int .u64 y) hRl hRX hYl hi hGn
  obtain ⟨gN, hgN⟩ : ∃ gN, w.heap.size = gN := ⟨_, rfl⟩
  have hh0 : (w.drew.alloc (.cells ROW 25)).heap[gN]? = some (.cells ROW 25 (0, 0)) := by rw [← hgN]; exact heap_alloc_new w.drew _
  have b0 : Below w.heap.size w (w.drew.alloc (.cells ROW 25)) := (below_drew (Below.refl _ _)).alloc (Nat.le_refl _) _
  rw [hgN] at hrz
  obtain ⟨W0, hW0⟩ : ∃ W0, w.drew.alloc (.cells ROW 25) = W0 := ⟨_, rfl⟩
  rw [hW0] at hrz hh0 b0
  have hg0 : W0.heap[gv]? = some (.cells #[.int .u64 y] 25) := by rw [b0.block gv hgvl]; exact hg
  have hr0 : W0.heap[g]? = some (.cells cur 25 (0, 0)) := by rw [b0.block g hgl]; exact hh
  have hcpA := fun ty dc => run_copy_row (P := Try.prog) W0 22 22 ty 25 gN i (q + 1 - i) dc ⟨gv, 0, none⟩ 1 1 ROW 25 (nums .u64 [y]) Try.underlying22 hsz1 hh0 (by rw [nums_len]; simp only [Nat.min_def, List.length_singleton]; split <;> omega) (reads_cells (reads1 hg0)) (by rw [← Array.length_toList, hRl]; simp only [nums_len, List.length_singleton]; omega) (nums_one _)
  have hh1 := setRow_heap W0 gN _ (ROW.toList.take i ++ nums .u64 [y] ++ ROW.toList.drop (i + (nums .u64 [y]).length)).toArray _ _ hh0
  have b1 : Below w.heap.size w (W0.setRow gN (ROW.toList.take i ++ nums .u64 [y] ++ ROW.toList.drop (i + (nums .u64 [y]).length)).toArray) := below_setRow b0 (by omega) _
  have hr1 : (W0.setRow gN (ROW.toList.take i ++ nums .u64 [y] ++ ROW.toList.drop (i + (nums .u64 [y]).length)).toArray).heap[g]? = some (.cells cur 25 (0, 0)) := by rw [setRow_other _ _ _ _ (by omega)]; exact hr0
  obtain ⟨W1, hW1⟩ : ∃ W1, W0.setRow gN (ROW.toList.take i ++ nums .u64 [y] ++ ROW.toList.drop (i + (nums .u64 [y]).length)).toArray = W1 := ⟨_, rfl⟩
  rw [hW1] at hcpA hh1 b1 hr1
  obtain ⟨R1, hR1⟩ : ∃ R1, ROW.toList.take i ++ nums .u64 [y] ++ ROW.toList.drop (i + (nums .u64 [y]).length) = R1 := ⟨_, rfl⟩
  have hR1' : ROW.toList.take i ++ [.int .u64 y] ++ ROW.toList.drop (i + 1) = R1 := hR1
  rw [hR1] at hh1
  rw [hR1'] at l1 l2 l3
  have hcpB := fun ty dc sc => run_copy_row (P := Try.prog) W1.drew 22 22 ty 25 gN (i + 1) (q - i) dc ⟨g, i, none⟩ (q - i) sc R1.toArray 25 (nums .u64 (K.drop i)) Try.underlying22 hsz1 hh1 (by rw [hYl]; simp only [Nat.min_def]; split <;> omega) (row_cells (W := W1.drew) hr1 ht hK) (by rw [hYl, List.size_toArray, l1]; omega) (nums_one _)
  have hh2 := setRow_heap W1.drew gN _ (R1.toArray.toList.take (i + 1) ++ nums .u64 (K.drop i) ++ R1.toArray.toList.drop (i + 1 + (nums .u64 (K.drop i)).length)).toArray _ _ hh1
  have b2 : Below w.heap.size w (W1.drew.setRow gN (R1.toArray.toList.take (i + 1) ++ nums .u64 (K.drop i) ++ R1.toArray.toList.drop (i + 1 + (nums .u64 (K.drop i)).length)).toArray) := below_setRow (below_drew b1) (by omega) _
  obtain ⟨W2, hW2⟩ : ∃ W2, W1.drew.setRow gN (R1.toArray.toList.take (i + 1) ++ nums .u64 (K.drop i) ++ R1.toArray.toList.drop (i + 1 + (nums .u64 (K.drop i)).length)).toArray = W2 := ⟨_, rfl⟩
  rw [hW2] at hcpB hh2 b2
  have own2 : W2.ownsRow base 25 1 (.slice (some ⟨gN, 0, none⟩) (q + 1) G) (q + 1) (nums .u64 (K.take i ++ y :: K.drop i)) := by
    refine ⟨by rw [nums_len, List.length_append, List.length_cons, List.length_take, List.length_drop]; omega, .inr ⟨gN, G, _, rfl, by omega, hh2, hGn, hGm, ?_, ?_⟩⟩
    · rw [List.size_toArray]; exact (Nat.mul_one G).symm ▸ l2
    · rw [Nat.mul_one, List.toList_toArray]
      have e : nums .u64 (K.take i ++ y :: K.drop i) = nums .u64 (K.take i) ++ .int .u64 y :: nums .u64 (K.drop i) := by unfold nums; rw [List.map_append, List.map_cons]
      rw [e]; exact l3
  have hbel := b2.mono hb
  have HO := Lib.hid (And.intro own2 (And.intro (grown_of_below b2 (some g)) (And.intro hbel (show w.heap.size ≤ gN by omega))))
  have hc63 : c ≤ 9223372036854775807 := by unfold maxLen at hm; omega
  have hG63 : G ≤ 9223372036854775807 := by unfold maxLen at hGm; omega
  have hz2 : ¬ ((i : Int) = (q : Int)) := by omega
  have hz3 : (c : Int) < (q : Int) + 1 := by omega
  have hin : i ≤ q := by omega
  have hw1 : IntKind.i64.wrap ((i : Int) + 1) = (i : Int) + 1 := by rw [IntKind.wrap_i64]; omega
  have hb1 : (0 : Int) ≤ (i : Int) + 1 := by omega
  have htn : ((i : Int) + 1).toNat = i + 1 := by omega
  have hGi : ¬ (G = i) := by omega
  have hGim : ¬ (G = i + 1) := by omega
  have hci : ¬ (c = i) := by omega
  have hb3 : (i : Int) ≤ (q : Int) := by omega
  clear ho hh ht hsz hX hXl hYl hkk hik hold hG hROW hGm hRl hRX l1 l2 l3 hgN hh0 b0 hW0 hg0 hr0 hh1 b1 hr1 hW1 hR1 hR1' hh2 b2 hW2 own2 hbel hm hge hb hK hg hgl hgvl hsz1 hzb hzs hz0 hi0
  go_enter Try.func59, Try.ntmps59
  go_wp2_with (first | (at_builtin; refine Lib.wpList_append_run _ rfl _ _ _ _ rfl _ _ rfl rfl _ _ (hrz _) ?_) | (refine wpList_copy_runI _ rfl _ _ 22 22 rfl _ _ rfl rfl (hcpA _ _) ?_))
  go_region_law (refine step_copy_runI rfl _ _ 22 22 rfl (.slice (some ⟨gN, i + 1, none⟩) (q - i) (G - (i + 1))) (.slice (some ⟨g, i, none⟩) (q - i) (c - i)) (by simp [Act.eval, Act.put]) (by simp [Act.eval, Act.put]) (hcpB 3 (G - (i + 1)) (c - i)) ?_)
  go_wp2
  go_ret
  exact ⟨some ⟨gN, 0, none⟩, G, rfl, HO.out.1, HO.out.2.2.1, HO.out.2.1, .inr ⟨gN, rfl, HO.out.2.2.2⟩⟩
theorem insert_any (A : Option Addr) (c q i gv base : Nat) (K : List Int) (y : Int) (w : World) (ho : w.ownsRow base 25 1 (.slice A q c) q (nums .u64 K)) (hK : K.length = q) (hg : w.heap[gv]? = some (.cells #[.int .u64 y] 25)) (hne : ∀ a, A = some a → gv ≠ a.block) (hi : i ≤ q) (hb : base ≤ w.heap.size) (hs : (q + 1) * 8 ≤ 140737488355328) :
    Calls Try.prog 59 #[.slice A q c, .int .i64 (i : Int), .slice (some ⟨gv, 0, none⟩) 1 1] w fun e w' => INS w w' e base (Value.slice A q c).ownBlock (q + 1) (K.take i ++ y :: K.drop i) := by
  rcases Nat.lt_or_ge i q with h | h
  · rcases Nat.lt_or_ge c (q + 1) with h2 | h2
    · exact insert_grow A c q i gv base K y w ho hK hg h h2 hb hs
    · exact insert_room A c q i gv base K y w ho hK hg hne h h2 hb hs
  · obtain rfl : i = q := by omega
    rw [List.take_of_length_le (by omega), List.drop_eq_nil_of_le (by omega)]
    exact insert_end A c i gv base K y w ho hK hg hb hs
end Go.Proofs.Ytdekplalhfpooaa.Knt
