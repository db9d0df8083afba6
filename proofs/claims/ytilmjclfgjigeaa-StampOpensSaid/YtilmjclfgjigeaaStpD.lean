/- What the laws of the stamp ask first, 'wakes': it is true. -/
import Derived.Test.YtilmjclfgjigeaaStpC
import Derived.Test.YtilmjclfgjigeaaCrcF
set_option linter.unusedVariables false
set_option linter.unusedSimpArgs false
namespace Go.Proofs.Ytilmjclfgjigeaa.Stp
open Go Go.RowKit Go.Proofs.YtilmjclfgjigeaaW.PrintWords Go.Proofs.YtilmjclfgjigeaaW.PrintLast Go.Proofs.YtilmjclfgjigeaaW.PrintMore Base2 Odr
open Crc (more made23)

theorem seal_take (p : List Int) (at_ kind : Int) (h : p.length ≤ 240) : (sealL p at_ kind).take 252 = head p at_ kind := by
  unfold sealL
  rw [List.take_append_of_le_length (by rw [head_length p _ _ h]; omega), List.take_of_length_le (by rw [head_length p _ _ h]; omega)]
theorem seal_sum (p : List Int) (at_ kind : Int) (h : p.length ≤ 240) : (sealL p at_ kind).drop 252 = be (sumOf (head p at_ kind)) 4 := by
  unfold sealL
  rw [List.drop_append_of_le_length (by rw [head_length p _ _ h]; omega), List.drop_of_length_le (by rw [head_length p _ _ h]; omega), List.nil_append]
theorem seal_pay (p : List Int) (at_ kind : Int) (h : p.length ≤ 240) : (sealL p at_ kind).take 240 = pad p := by
  unfold sealL head
  rw [List.append_assoc, List.append_assoc, List.take_append_of_le_length (by rw [pad_length p h]; omega), List.take_of_length_le (by rw [pad_length p h]; omega)]
theorem seal_place (p : List Int) (at_ kind : Int) (h : p.length ≤ 240) : ((sealL p at_ kind).drop 240).take 8 = be (u64 at_) 8 := by
  unfold sealL head
  rw [List.append_assoc, List.append_assoc, List.drop_append_of_le_length (by rw [pad_length p h]; omega), List.drop_of_length_le (by rw [pad_length p h]; omega), List.nil_append,
    List.take_append_of_le_length (by rw [be_length]; omega), List.take_of_length_le (by rw [be_length]; omega)]
theorem seal_kind (p : List Int) (at_ kind : Int) (h : p.length ≤ 240) : ((sealL p at_ kind).drop 248).take 4 = be kind 4 := by
  unfold sealL
  have e : head p at_ kind = (pad p ++ be (u64 at_) 8) ++ be kind 4 := rfl
  have hl : (pad p ++ be (u64 at_) 8).length = 248 := by rw [List.length_append, pad_length p h, be_length]
  rw [e, List.append_assoc, List.drop_append_of_le_length (by omega), List.drop_of_length_le (by omega), List.nil_append,
    List.take_append_of_le_length (by rw [be_length]; omega), List.take_of_length_le (by rw [be_length]; omega)]
theorem openE_seal (p : List Int) (at_ kind other what : Int) (h : p.length ≤ 240) (k0 : 0 ≤ kind) (k1 : kind < 256) (h0 : 0 ≤ what) (h1 : what < 256) :
    openE (sealL p at_ kind) other what = if u64 at_ = u64 other then (if kind = what then 0 else 22) else 21 := by
  unfold openE
  rw [sealL_length p _ _ h, if_neg (by omega), if_neg (by omega), seal_take p _ _ h, seal_sum p _ _ h, if_neg (by simp), seal_place p _ _ h, seal_kind p _ _ h]
  by_cases a : u64 at_ = u64 other
  · rw [if_pos a, a, if_neg (by simp)]
    by_cases b : kind = what
    · rw [if_pos b, b, if_neg (by simp)]
    · rw [if_neg b, if_pos (fun h => b (be_inj 4 _ _ k0 (by omega) h0 (by omega) h))]
  · rw [if_neg a, if_pos (fun h => a (be_inj 8 _ _ (by unfold u64; omega) (by unfold u64; omega) (by unfold u64; omega) (by unfold u64; omega) h))]
theorem u64_inj {a b : Int} (ha : -9223372036854775808 ≤ a ∧ a ≤ 9223372036854775807) (hb : -9223372036854775808 ≤ b ∧ b ≤ 9223372036854775807) : u64 a = u64 b ↔ a = b := by
  unfold u64; omega
theorem open_at {er : Int} {L : List Int} {m : Nat} (b : List Int) {A : Option Addr} {n c : Nat} {at_ kind : Int} (w : World) (HR : ReadsInt w .u8 A n b) (hw : ∀ x ∈ b, (Lit.int .u8 x).wf = true) (hc : n ≤ c) (h0 : 0 ≤ kind) (h1 : kind < 256) (he : openE b at_ kind = er) (hL : openL b at_ kind = L) (hm : L.length = m) :
    Calls Try.prog 25 #[.slice A n c, .int .i64 at_, .int .u8 kind] w fun e w' => ∃ A' c', e = .returned (.tuple #[.slice A' m c', .int .i64 er]) ∧ w'.ownsRow w.heap.size 5 1 (.slice A' m c') m (nums .u8 L) ∧ Below w.heap.size w w' := by
  subst he; subst hL; subst hm
  exact open_any b A n c at_ kind w HR hw hc h0 h1
theorem openE_zero : openE (List.replicate 256 0) 0 0 = 20 := by
  unfold openE
  rw [List.length_replicate, if_neg (by omega), if_neg (by omega), List.drop_replicate, List.take_replicate, if_pos]
  decide +kernel
theorem seal_at0 : (sealL [97, 98] 5 1)[1]? = some 98 ∧ (sealL [97, 98] 5 1)[247]? = some 5 ∧ (sealL [97, 98] 5 1)[251]? = some 1 := by decide +kernel
theorem own_cell {w : World} {base g n c : Nat} {xs : List Int} {k : IntKind} {e : TypeId} (h : w.ownsRow base e 1 (.slice (some ⟨g, 0, none⟩) n c) n (nums k xs)) (i : Nat) (x : Int) (hi : i < n) (hx : xs[i]? = some x) : w.cell? ⟨g, i, none⟩ = some (.int k x) := by
  have h' := (own_at h (i : Int) (by omega) (by omega)).1
  have e1 : (({ block := g, off := ((i : Int)).toNat, spot := none } : Addr)) = ⟨g, i, none⟩ := rfl
  rw [show rd xs (i : Int) = x by simp [rd, hx]] at h'
  exact h'

theorem wf_zeros {n : Nat} : ∀ x ∈ List.replicate n (0 : Int), (Lit.int .u8 x).wf = true := fun x hx => by
  rw [List.eq_of_mem_replicate hx]; rfl
set_option maxRecDepth 100000 in
set_option maxHeartbeats 1600000 in
theorem wakes_any (w : World) : Calls Try.prog 24 #[] w fun e w' => e = .returned (.bool true) ∧ Below w.heap.size w w' := by
  have hmk : ∀ W : World, (Instr.makeSlice 23 (.int .i64 256) (.int .i64 256)).run Try.prog W = .ok (.slice (some ⟨W.heap.size, 0, none⟩) 256 256) (W.alloc (.cells (madeCells #[.int .u8 0] 256) 5)) := made23 256 (by omega)
  have kc := fun (w : World) (C : Array Value) (n c g : Nat) (hg : g = w.heap.size) => Joins.run_convert_bytes_const_at (P := Try.prog) w 23 5 C n c g hg Try.underlying23 Try.underlying5
  obtain ⟨S, hS⟩ : ∃ S, sealL [97, 98] 5 1 = S := ⟨_, rfl⟩
  obtain ⟨s1, s2, s3⟩ := seal_at0
  have hsl : S.length = 256 := by rw [← hS]; exact sealL_length _ _ _ (by decide)
  have hw : ∀ x ∈ S, (Lit.int .u8 x).wf = true := by rw [← hS]; exact sealL_wf _ _ _ (by decide)
  have E1 : openE S 5 1 = 0 := by rw [← hS, openE_seal _ _ _ _ _ (by decide) (by decide) (by decide) (by decide) (by decide)]; rfl
  have E2 : openE S 6 2 = 21 := by rw [← hS, openE_seal _ _ _ _ _ (by decide) (by decide) (by decide) (by decide) (by decide)]; rfl
  have E3 : openE S 5 2 = 22 := by rw [← hS, openE_seal _ _ _ _ _ (by decide) (by decide) (by decide) (by decide) (by decide)]; rfl
  have L1 : openL S 5 1 = pad [97, 98] := by rw [openL_ok E1, ← hS]; exact seal_pay _ _ _ (by decide)
  have L2 : openL S 6 2 = [] := openL_no (by rw [E2]; decide)
  have L3 : openL S 5 2 = [] := openL_no (by rw [E3]; decide)
  rw [hS] at s1 s2 s3
  have H := Lib.hid (And.intro hS (And.intro s1 (And.intro s2 (And.intro s3 (And.intro hsl (And.intro hw (And.intro E1 (And.intro E2 (And.intro E3 (And.intro L1 (And.intro L2 L3)))))))))))
  clear hS s1 s2 s3 hsl hw E1 E2 E3 L1 L2 L3
  go_enter Try.func24, Try.ntmps24
  go_wp2_with fail
  refine (seal_ok [97, 98] _ 2 _ 5 1 _ (lit_at [97, 98] rfl (by decide)) (by omega) (by omega) (by omega)).mono ?_
  rintro e w1 ⟨A1, c1, rfl, ho1, hb1⟩
  obtain ⟨g, c, he, -, -⟩ := ho1.form (by omega)
  injection he with he1 he2 he3
  subst he1; subst he3
  rw [H.out.1] at ho1
  have hc := own_cap ho1
  have K1 := own_cell ho1 1 98 (by omega) H.out.2.1
  have K2 := own_cell ho1 247 5 (by omega) H.out.2.2.1
  have K3 := own_cell ho1 251 1 (by omega) H.out.2.2.2.1
  have R1 := Lib.hid (reads_of_own ho1 H.out.2.2.2.2.1 rfl)
  have B1 := Lib.hid (below_then ((Below.refl _ _).alloc (Nat.le_refl _) _) (by simp) hb1)
  clear ho1 hb1
  go_wp2_with fail
  refine (open_at S _ R1.out H.out.2.2.2.2.2.1 hc (by omega) (by omega) H.out.2.2.2.2.2.2.1 H.out.2.2.2.2.2.2.2.2.2.1 (m := 240) (pad_length _ (by decide))).mono ?_
  rintro e w2 ⟨A2, c2, rfl, ho2, hb2⟩
  obtain ⟨g2, c2', he, -, -⟩ := ho2.form (by omega)
  injection he with he1 he2 he3
  subst he1; subst he3
  have M1 := own_cell ho2 0 97 (by omega) (by decide +kernel)
  have R2 := Lib.hid (ReadsInt.below R1.out hb2)
  have B2 := Lib.hid (below_then B1.out B1.out.size hb2)
  clear ho2 hb2 K1 K2 K3
  go_wp2_with fail
  refine (open_at S _ R2.out H.out.2.2.2.2.2.1 hc (by omega) (by omega) H.out.2.2.2.2.2.2.2.1 H.out.2.2.2.2.2.2.2.2.2.2.1 (m := 0) rfl).mono ?_
  rintro e w3 ⟨A3, c3, rfl, ho3, hb3⟩
  have M2 := pw_cell_below hb3 M1
  have R3 := Lib.hid (ReadsInt.below R2.out hb3)
  have B3 := Lib.hid (below_then B2.out B2.out.size hb3)
  clear ho3 hb3 M1
  go_wp2_with fail
  refine (open_at S _ R3.out H.out.2.2.2.2.2.1 hc (by omega) (by omega) H.out.2.2.2.2.2.2.2.2.1 H.out.2.2.2.2.2.2.2.2.2.2.2 (m := 0) rfl).mono ?_
  rintro e w4 ⟨A4, c4, rfl, ho4, hb4⟩
  have M3 := pw_cell_below hb4 M2
  have B4 := Lib.hid (below_then B3.out B3.out.size hb4)
  clear ho4 hb4 M2
  go_wp2_with fail
  refine (open_at (List.replicate 256 0) _ (made_at rfl (by omega)) wf_zeros (by omega) (by omega) (by omega) openE_zero (openL_no (by rw [openE_zero]; decide)) (m := 0) rfl).mono ?_
  rintro e w5 ⟨A5, c5, rfl, ho5, hb5⟩
  have M4 := pw_cell_below hb5 (alloc_cell M3 _)
  have B5 := Lib.hid (below_then (B4.out.alloc B4.out.size _) (by simp; have := B4.out.size; omega) hb5)
  clear ho5 hb5 M3
  go_wp2_with fail
  go_ret
  exact ⟨rfl, B5.out⟩
end Go.Proofs.Ytilmjclfgjigeaa.Stp
