/- A node in new memory: the document's Own (every input). -/
import Derived.Test.YtdekplalhfpooaaNodB
set_option linter.unusedVariables false
set_option linter.unusedSimpArgs false
namespace Go.Proofs.Ytdekplalhfpooaa.Nod
open Go Go.RowKit Go.Proofs.YtdekplalhfpooaaW.PrintWords Go.Proofs.YtdekplalhfpooaaW.PrintLast Go.Proofs.YtdekplalhfpooaaW.PrintMore Base Odr Hlp

theorem info64 : (Try.prog.info? 25).map (fun i => (i.zero, i.size, i.bytes)) = some (some (.int .u64 0), 1, 8) := by kernel_rfl
theorem size3 (a b c : Value) : (Try.prog.info? 24).map (·.size) = some (#[a, b, c]).size := by kernel_rfl
theorem one3 (L : Bool) (A B : Option Addr) (n c m d : Nat) : (#[Value.bool L, .slice A n c, .slice B m d]).all (·.oneCell') = true := by simp [Value.oneCell']
theorem ret_one {f : Func} {R : Ending → World → Prop} {a : Act} {w : World} (hf : f.results = #[.cell 2 24]) (g : Nat) (cs : Array Value) (fr : Nat × Nat) (hp : a.tmps.getD 2 undef = .pointer (some ⟨g, 0, none⟩)) (hg : w.heap[g]? = some (.cells cs 24 fr)) (hcs : cs.size = 3)
    (hd : a.defers = []) (hR : R (.returned (.agg cs)) w) : bodyPost Try.prog f R .ret a w := by
  have h1 := run_loadVar_row (P := Try.prog) w g 24 24 cs fr _ hg Try.underlying24 rfl (by rw [hcs]; kernel_rfl)
  have hp' : a.tmps[2]?.getD undef = .pointer (some ⟨g, 0, none⟩) := by simpa using hp
  refine bodyPost_ret (v := .agg cs) ?_ hd hR
  simp [results, hf, hp', asAddr, h1]
theorem ret_two {f : Func} {R : Ending → World → Prop} {a : Act} {w : World} (hf : f.results = #[.cell 2 24, .tmp 3]) (g : Nat) (cs : Array Value) (fr : Nat × Nat) (hp : a.tmps.getD 2 undef = .pointer (some ⟨g, 0, none⟩)) (hg : w.heap[g]? = some (.cells cs 24 fr)) (hcs : cs.size = 3)
    (hd : a.defers = []) (hR : R (.returned (.tuple #[.agg cs, a.tmps.getD 3 undef])) w) : bodyPost Try.prog f R .ret a w := by
  have h1 := run_loadVar_row (P := Try.prog) w g 24 24 cs fr _ hg Try.underlying24 rfl (by rw [hcs]; kernel_rfl)
  have hp' : a.tmps[2]?.getD undef = .pointer (some ⟨g, 0, none⟩) := by simpa using hp
  refine bodyPost_ret (v := .tuple #[.agg cs, a.tmps.getD 3 undef]) ?_ hd hR
  simp [results, hf, hp', asAddr, h1]

set_option maxRecDepth 100000 in
set_option maxHeartbeats 1600000 in
theorem own_any (L : Bool) (K V : List Int) (ak av : Option Addr) (nk ck nv cv : Nat) (w : World) (HK : ReadsInt w .u64 ak nk K) (HV : ReadsInt w .u64 av nv V) (hk : nk * 8 ≤ 140737488351232) (hv : nv * 8 ≤ 140737488351232) :
    Calls Try.prog 20 #[.agg #[.bool L, .slice ak nk ck, .slice av nv cv]] w fun e w' => ∃ A c A' c', e = .returned (.agg #[.bool L, .slice A nk c, .slice A' nv c']) ∧
      w'.ownsRow w.heap.size 25 1 (.slice A nk c) nk (nums .u64 K) ∧ w'.ownsRow w.heap.size 25 1 (.slice A' nv c') nv (nums .u64 V) ∧ Below w.heap.size w w' := by
  obtain ⟨w1, hw1, b1, f1, s1⟩ := made w #[.bool L, .slice ak nk ck, .slice av nv cv] 24
  obtain ⟨w2, hw2, b2, f2, s2⟩ := made w1 #[.bool false, .slice none 0 0, .slice none 0 0] 24
  have B2 := Lib.hid (below_then b1 b1.size b2)
  have f1' := keep_row f1 b2
  have g1 : w2.cell? ⟨w.heap.size, 1, none⟩ = some (.slice ak nk ck) := cell_row f1' rfl
  have RK := Lib.hid (ReadsInt.below HK B2.out)
  have RV := Lib.hid (ReadsInt.below HV B2.out)
  have LK := Lib.hid HK.1
  have LV := Lib.hid HV.1
  have F1 := Lib.hid f1'
  have F2 := Lib.hid f2
  have S2 := Lib.hid (show w.heap.size < w2.heap.size ∧ w1.heap.size < w2.heap.size ∧ w.heap.size ≠ w1.heap.size ∧ w.heap.size ≤ w1.heap.size by omega)
  have HV0 := Lib.hid HV
  clear HK HV b1 b2 f1 f2 s1 s2 f1'
  go_enter Try.func20, Try.ntmps20
  go_wp2_with (at_builtin; refine print_append_row (w0 := w2) (W := w2) w2.heap.size rfl _ _ 22 25 .u64 8 rfl Try.underlying22 info64 (by omega) (.slice none 0 0) [] K ak nk ck rfl rfl (own_nil _ _ _ _) RK.out (Below.refl _ _) (Nat.le_refl _) (by simp; omega) ?_)
  intro v3 w3 hown hb hg hat
  have hown' : w3.ownsRow w2.heap.size 25 1 v3 nk (nums .u64 K) := by simpa [LK.out] using hown
  obtain ⟨A3, c3, rfl⟩ := own_slice hown'
  obtain ⟨w4, hw4⟩ : ∃ w4, w3.setCell ⟨w.heap.size, 1, none⟩ (.slice A3 nk c3) = w4 := ⟨_, rfl⟩
  have r1 : w4.heap[w.heap.size]? = some (.cells #[.bool L, .slice A3 nk c3, .slice av nv cv] 24) := by rw [← hw4]; exact blk_put (keep_row F1.out hb) 1 _ rfl
  have r2 : w4.heap[w1.heap.size]? = some (.cells #[.bool false, .slice none 0 0, .slice none 0 0] 24) := by rw [← hw4]; exact blk_far (keep_row F2.out hb) (Ne.symm S2.out.2.2.1) _
  have q1 := keep_row F1.out hb
  have c1 : w3.cell? ⟨w.heap.size, 1, none⟩ = some (.slice ak nk ck) := cell_row q1 rfl
  have z1 : w3.frozen? ⟨w.heap.size, 1, none⟩ = false := blk_frozen q1 1
  have g2 : w4.cell? ⟨w.heap.size, 2, none⟩ = some (.slice av nv cv) := cell_row r1 rfl
  have z2 : w4.frozen? ⟨w.heap.size, 2, none⟩ = false := blk_frozen r1 2
  have O4 := Lib.hid (show w4.ownsRow w2.heap.size 25 1 (.slice A3 nk c3) nk (nums .u64 K) by rw [← hw4]; exact own_setCell hown' (own_ne hown' S2.out.1) _)
  have B4 := Lib.hid (show Below w.heap.size w w4 by rw [← hw4]; exact (below_then B2.out B2.out.size hb).setCell (Nat.le_refl _) _)
  have D4 := Lib.hid (show w2.heap.size ≤ w4.heap.size by rw [← hw4, World.size_setCell]; exact hb.size)
  have V5 := Lib.hid (ReadsInt.below HV0.out B4.out)
  have F4 := Lib.hid r1
  have E4 := Lib.hid r2
  clear hown hown' hb hg hat q1 r1 r2
  go_wp2_with (at_builtin; refine print_append_row (w0 := w4) (W := w4) w4.heap.size rfl _ _ 22 25 .u64 8 rfl Try.underlying22 info64 (by omega) (.slice none 0 0) [] V av nv cv rfl rfl (own_nil _ _ _ _) V5.out (Below.refl _ _) (Nat.le_refl _) (by simp; omega) ?_)
  intro v5 w5 hown hb hg hat
  have hown' : w5.ownsRow w4.heap.size 25 1 v5 nv (nums .u64 V) := by simpa [LV.out] using hown
  obtain ⟨A5, c5, rfl⟩ := own_slice hown'
  obtain ⟨w6, hw6⟩ : ∃ w6, w5.setCell ⟨w.heap.size, 2, none⟩ (.slice A5 nv c5) = w6 := ⟨_, rfl⟩
  have q1 := keep_row F4.out hb
  have r1 : w6.heap[w.heap.size]? = some (.cells #[.bool L, .slice A3 nk c3, .slice A5 nv c5] 24) := by rw [← hw6]; exact blk_put q1 2 _ rfl
  have r2 : w6.heap[w1.heap.size]? = some (.cells #[.bool false, .slice none 0 0, .slice none 0 0] 24) := by rw [← hw6]; exact blk_far (keep_row E4.out hb) (Ne.symm S2.out.2.2.1) _
  have c2 : w5.cell? ⟨w.heap.size, 2, none⟩ = some (.slice av nv cv) := cell_row q1 rfl
  have z3 : w5.frozen? ⟨w.heap.size, 2, none⟩ = false := blk_frozen q1 2
  have hlt : w.heap.size < w4.heap.size := by have := S2.out.1; have := D4.out; omega
  have O6 := Lib.hid (show w6.ownsRow w4.heap.size 25 1 (.slice A5 nv c5) nv (nums .u64 V) by rw [← hw6]; exact own_setCell hown' (own_ne hown' hlt) _)
  have P6 := Lib.hid (show w6.ownsRow w2.heap.size 25 1 (.slice A3 nk c3) nk (nums .u64 K) by rw [← hw6]; exact own_setCell (pw_own_below O4.out hb) (own_ne O4.out S2.out.1) _)
  have B6 := Lib.hid (show Below w.heap.size w w6 by rw [← hw6]; exact (below_then B4.out B4.out.size hb).setCell (Nat.le_refl _) _)
  have F6 := Lib.hid r1
  have E6 := Lib.hid r2
  clear hown hown' hb hg hat q1 r1 r2 c1 z1 hlt
  go_wp2_with (first | ((with_reducible refine wpList_load_row rfl 24 (.tmp 1) rfl w.heap.size ?_ 24 _ _ _ F6.out Try.underlying24 ?_ (size3 _ _ _) ?_); rfl; rfl) | ((with_reducible refine wpList_store_row rfl 24 (.tmp 2) (.tmp 15) rfl w1.heap.size #[.bool L, .slice A3 nk c3, .slice A5 nv c5] ?_ ?_ 24 _ E6.out (size3 _ _ _) ?_ (one3 _ _ _ _ _ _ _) ?_); rfl; rfl; rfl))
  refine ret_one rfl w1.heap.size #[.bool L, .slice A3 nk c3, .slice A5 nv c5] (0, 0) rfl (setRow_heap _ _ _ _ _ _ E6.out) rfl rfl ⟨A3, c3, A5, c5, rfl, ?_, ?_, below_setRow B6.out S2.out.2.2.2 _⟩
  · exact own_weaken (own_setRow P6.out (own_ne P6.out S2.out.2.1) _) (Nat.le_of_lt S2.out.1)
  · exact own_weaken (own_setRow O6.out (own_ne O6.out (Nat.lt_of_lt_of_le S2.out.2.1 D4.out)) _) (Nat.le_trans (Nat.le_of_lt S2.out.1) D4.out)
end Go.Proofs.Ytdekplalhfpooaa.Nod
