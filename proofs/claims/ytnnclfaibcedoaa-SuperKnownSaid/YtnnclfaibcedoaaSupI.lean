/- The document's number, Take; bytes.Equal: by their contracts (every input). -/
import Derived.Test.YtnnclfaibcedoaaSupH
set_option linter.unusedVariables false
set_option linter.unusedSimpArgs false
namespace Go.Proofs.Ytnnclfaibcedoaa.Sup
open Go Go.RowKit Go.Proofs.YtnnclfaibcedoaaW.PrintWords Go.Proofs.YtnnclfaibcedoaaW.PrintLast Go.Proofs.YtnnclfaibcedoaaW.PrintMore Base Odr

theorem equal_any (xs ys : List Int) (A1 A2 : Option Addr) (n1 c1 n2 c2 : Nat) (w : World) (H1 : ReadsInt w .u8 A1 n1 xs) (H2 : ReadsInt w .u8 A2 n2 ys) (h1 : ∀ x ∈ xs, (Lit.int .u8 x).wf = true) (h2 : ∀ x ∈ ys, (Lit.int .u8 x).wf = true) :
    Calls Try.prog 17 #[.slice A1 n1 c1, .slice A2 n2 c2] w fun e w' => e = .returned (.bool (decide (xs = ys))) ∧ w = w' := by
  have hs1 := string_of_reads (c := c1) Try.underlying22 Try.underlying5 Try.underlying9 H1
  have hs2 := string_of_reads (c := c2) Try.underlying22 Try.underlying5 Try.underlying9 H2
  have he : ((strOfNums xs).toList == (strOfNums ys).toList) = decide (xs = ys) := by
    rw [Bool.eq_iff_iff]; simp only [beq_iff_eq, decide_eq_true_eq]
    exact ⟨fun h => bytes_inj h1 h2 h, fun h => by rw [h]⟩
  have HE := Lib.hid he
  clear H1 H2 h1 h2 he
  go_enter Try.func17, Try.ntmps17
  go_wp2_with fail
  go_ret
  exact ⟨ret_eq (congrArg Value.bool HE.out), rfl⟩
set_option maxHeartbeats 1600000 in
theorem rnum_any (xs : List Int) (A : Option Addr) (n c at_ : Nat) (w : World) (HR : ReadsInt w .u8 A n xs) (hw : ∀ x ∈ xs, (Lit.int .u8 x).wf = true) (hs : at_ + 8 ≤ n) (hn : n ≤ 100000) :
    Calls Try.prog 25 #[.slice A n c, .int .i64 (at_ : Int)] w fun e w' => e = .returned (.int .u64 (getN ((xs.drop at_).take 8))) ∧ w = w' := by
  have hl := HR.1
  have HRH := Lib.hid HR
  have HW := Lib.hid hw
  have HL := Lib.hid hl
  clear HR hw hl
  go_enter Try.func25, Try.ntmps25
  go_wp2_with fail
  go_loop [5, 6] (fun v i => ∃ j : Nat, j ≤ 8 ∧ i = .int .i64 (j : Int) ∧ v = .int .u64 (getN ((xs.drop at_).take j))) (fun _ i => 8 - (intOf i).toNat)
  case atStart => exact ⟨0, by omega, rfl, rfl⟩
  case round =>
    obtain ⟨j, hj, rfl, rfl⟩ := hrel
    by_cases hlt : j < 8
    · obtain ⟨ad, rfl, hc0⟩ := HRH.out.at_ ((at_ : Int) + (j : Int)) (by omega) (by omega)
      have e1 : ((at_ : Int) + (j : Int)).toNat = at_ + j := by omega
      have hlen : at_ + j < xs.length := by rw [HL.out]; omega
      have hcell : w.cell? (ad.add (at_ + j)) = some (.int .u8 (xs.getD (at_ + j) 0)) := by have h := hc0; unfold rd at h; rw [e1] at h; exact h
      have hx8 := le_of_wf8 (HW.out (xs.getD (at_ + j) 0) (by rw [List.getD_eq_getElem?_getD, List.getElem?_eq_getElem hlen]; exact List.getElem_mem _))
      have hb := getN_bound j ((xs.drop at_).take j) (by rw [List.length_take, List.length_drop, HL.out]; omega) (fun x hx => HW.out x (List.mem_of_mem_drop (List.mem_of_mem_take hx)))
      have hp : (256 : Int) ^ j ≤ 72057594037927936 := by
        have h : ∀ j, j < 8 → (256 : Int) ^ j ≤ 72057594037927936 := by decide
        exact h j (by omega)
      have hsu : getN ((xs.drop at_).take (j + 1)) = getN ((xs.drop at_).take j) * 256 + xs.getD (at_ + j) 0 := by
        rw [List.take_succ_eq_append_getElem (by rw [List.length_drop, HL.out]; omega), getN_snoc, List.getElem_drop, List.getD_eq_getElem?_getD, List.getElem?_eq_getElem hlen]; rfl
      obtain ⟨a, ha⟩ : ∃ a, getN ((xs.drop at_).take j) = a := ⟨_, rfl⟩
      obtain ⟨y, hy⟩ : ∃ y, xs.getD (at_ + j) 0 = y := ⟨_, rfl⟩
      rw [ha] at hb hsu ⊢
      rw [hy] at hcell hx8 hsu
      have HSU := Lib.hid hsu
      obtain ⟨a0, a1⟩ := hb
      have a2 : a < 72057594037927936 := by omega
      obtain ⟨y0, y1⟩ := hx8
      clear ha hy hsu a1 hp hc0 hlen
      go_wp2_with fail
      go_round
      case rel => exact ⟨j + 1, by omega, by go_num, by rw [HSU.out, Int.mul_comm]⟩
      case measure => simp [intOf]; omega
    · obtain rfl : j = 8 := by omega
      go_wp2_with fail
      go_ret
      exact ⟨rfl, rfl⟩
theorem rnum_at {r : Int} (xs : List Int) {A : Option Addr} {n c : Nat} (at_ : Nat) (w : World) (HR : ReadsInt w .u8 A n xs) (hw : ∀ x ∈ xs, (Lit.int .u8 x).wf = true) (hs : at_ + 8 ≤ n) (hn : n ≤ 100000) (h : getN ((xs.drop at_).take 8) = r) :
    Calls Try.prog 25 #[.slice A n c, .int .i64 (at_ : Int)] w fun e w' => e = .returned (.int .u64 r) ∧ w = w' := by
  subst h; exact rnum_any xs A n c at_ w HR hw hs hn
end Go.Proofs.Ytnnclfaibcedoaa.Sup
