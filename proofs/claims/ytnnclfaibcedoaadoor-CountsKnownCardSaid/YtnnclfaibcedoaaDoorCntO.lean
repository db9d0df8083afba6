/- Counts: an argument that is a list of pages is opened. -/
import Derived.Deep.Matrix
import Derived.SizedLaws
import Derived.Test.YtnnclfaibcedoaaDoorCntB
import Derived.Test.YtnnclfaibcedoaaDoorWSized
set_option linter.unusedVariables false
set_option linter.unusedSimpArgs false
namespace Go.Proofs.YtnnclfaibcedoaaDoor.Cnt
open Go Go.RowKit Go.ChangeShapes Go.WideShapes Go.Proofs.YtnnclfaibcedoaaDoorW.PrintWords Go.Proofs.YtnnclfaibcedoaaDoorW.PrintLast Go.Proofs.YtnnclfaibcedoaaDoorW.PrintMore Base Odr Hlp

theorem weights_all {H : Type} {P : Program} {e : TypeId} {d : DataW H} {n : Nat} : ∀ {ds : List (DataW H)}, d ∈ ds → n ∈ d.weights P e → n ∈ DataW.weightsAll P e ds
  | x :: xs, hd, hn => by
    rw [DataW.weightsAll]
    rcases List.mem_cons.1 hd with rfl | hd
    · exact List.mem_append_left _ hn
    · exact List.mem_append_right _ (weights_all hd hn)
theorem open_pages {H : Type} {enc : TypeId × Value → H} {W : World} {held : Bool} {r : Reach} {b0 : Nat} {v : Value} {d : DataW H} {p : List MemPlace} {ts : List TypeId} {ds : List (DataW H)} {j : Nat}
    (hsz : (DataW.weightsEach Tryd.prog ts ds).all (· ≤ reachBytes) = true) (ht : ts[j]? = some 22) (hd : ds[j]? = some d) (hval : Value.okWide Tryd.prog W r b0 22 v) (h : DataW.Trod enc Tryd.prog W 0 (fun _ => true) held 22 v d p) :
    ∃ (A : Option Addr) (n c : Nat) (ps : List Pg), v = .slice A n c ∧ n ≤ c ∧ ReadsP W A n ps ∧ (∀ p ∈ ps, p.n ≤ 140737488351232) ∧ n * 24 ≤ 140737488351232 ∧ (∀ p ∈ ps, ∀ x ∈ p.bs, (Lit.int .u8 x).wf = true) := by
  obtain ⟨a0, len, cap, rfl⟩ := okWide_slice Tryd.underlying22 hval
  obtain ⟨fuel, hf⟩ := h
  rcases Deep.open_int_rows Tryd.underlying22 Tryd.underlying24 Tryd.underlying5 (by kernel_rfl) (by kernel_rfl) hf with ⟨hcs, _⟩ | ⟨a, len', cap', A, L, C, Z, hcs, _, hl, hm, hx, hr⟩
  · simp [Value.cells] at hcs
    obtain ⟨rfl, rfl, rfl⟩ := hcs
    exact ⟨none, 0, 0, [], rfl, Nat.le_refl _, ⟨⟨rfl, by omega, fun h => absurd h (by omega)⟩, fun p hp => by cases hp⟩, (fun p hp => by cases hp), by omega, fun p hp => by cases hp⟩
  · simp [Value.cells] at hcs
    obtain ⟨rfl, rfl, rfl⟩ := hcs
    obtain ⟨hdd, -⟩ := Prod.mk.inj hx
    have hwt := List.all_eq_true.1 hsz
    have hsl := sized_slice hsz ht (hd.trans (congrArg some hdd)) Tryd.underlying22
    have hbo : Tryd.prog.bytesOf 24 = 24 := by kernel_rfl
    have hb5 : Tryd.prog.bytesOf 5 = 1 := by kernel_rfl
    rw [hbo] at hsl
    have hinner : ∀ r, r < len → L r ≤ 140737488351232 := by
      intro r hr'
      obtain ⟨h1, h2, h3, h4, h5, h6, h7⟩ := hr r (by omega)
      cases hA : A r with
      | none => have := h6 hA; omega
      | some a' =>
        have hmem : (L r + (C r - L r)) * 1 ∈ d.weights Tryd.prog 22 := by
          rw [hdd]
          simp only [DataW.weights, Tryd.underlying22]
          refine List.mem_cons_of_mem _ (List.mem_append_left _ (weights_all (d := Deep.intRow .u8 (A r) (L r) (Z r)) (List.mem_map.2 ⟨r, List.mem_range.2 hr', rfl⟩) ?_))
          rw [hA]
          simp only [Deep.intRow, DataW.weights, Tryd.underlying24, hb5]
          refine List.mem_cons.2 (.inl ?_)
          simp [lits, h4]
          omega
        have := hwt _ (DataW.weights_mem_each ht hd _ hmem)
        have h9 : (L r + (C r - L r)) * 1 ≤ reachBytes := by simpa using this
        have h8 : reachBytes = 140737488351232 := rfl
        omega
    refine ⟨some a, len, cap, (List.range len).map fun r => ⟨A r, L r, C r, (Z r).take (L r)⟩, rfl, hl, ⟨⟨by simp, by simp only [maxLen] at hm; omega, fun _ => ⟨a, rfl, fun i hi => ?_⟩⟩, ?_⟩, ?_, ?_, ?_⟩
    · rw [(hr i (by omega)).1, List.getD_eq_getElem?_getD, List.getElem?_map, List.getElem?_range hi]
      rfl
    · intro p hp
      obtain ⟨r, hr1, rfl⟩ := List.mem_map.1 hp
      have hr' := List.mem_range.1 hr1
      obtain ⟨h1, h2, h3, h4, h5, h6, h7⟩ := hr r (by omega)
      refine ⟨by rw [List.length_take, h4]; exact Nat.min_eq_left h2, by simp only [maxLen] at h3; show L r ≤ _; omega, fun hp => ?_⟩
      dsimp only at hp ⊢
      cases hA : A r with
      | none => have := h6 hA; omega
      | some a' =>
        refine ⟨a', rfl, fun c hc => ?_⟩
        rw [(h7 a' hA).2 c (by omega)]
        simp only [List.getD_eq_getElem?_getD, List.getElem?_take, if_pos hc]
    · intro p hp
      obtain ⟨r, hr1, rfl⟩ := List.mem_map.1 hp
      exact hinner r (List.mem_range.1 hr1)
    · have h8 : reachBytes = 140737488351232 := rfl
      simp only [List.length_map, List.length_range] at hsl
      omega
    · intro p hp
      obtain ⟨r, hr1, rfl⟩ := List.mem_map.1 hp
      obtain ⟨h1, h2, h3, h4, h5, h6, h7⟩ := hr r (by have := List.mem_range.1 hr1; omega)
      intro x hx
      exact h5 x (List.mem_of_mem_take hx)
end Go.Proofs.YtnnclfaibcedoaaDoor.Cnt
