/- super.reader's number, numbers, arrays of bytes: by their contracts (every input). -/
import Derived.Test.YtnnclfaibcedoaaSupB
import Derived.Laws.StructEq
import Derived.Deep.MidRow
set_option linter.unusedVariables false
set_option linter.unusedSimpArgs false
namespace Go.Proofs.Ytnnclfaibcedoaa.Sup
open Go Go.RowKit Go.Proofs.YtnnclfaibcedoaaW.PrintWords Go.Proofs.YtnnclfaibcedoaaW.PrintLast Go.Proofs.YtnnclfaibcedoaaW.PrintMore Base Odr

theorem get_eight (b : List Int) (A : Option Addr) (n c : Nat) (w : World) (HR : ReadsInt w .u8 A n b) (hw : ∀ x ∈ b, (Lit.int .u8 x).wf = true) (hc : n ≤ c) (hs : 8 ≤ n) :
    Calls Try.prog 28 #[.slice A n c, .int .i64 8] w fun e w' => e = .returned (.tuple #[.int .u64 (getN (b.take 8)), .int .i64 0]) ∧ w = w' := get_any b A n c 8 w HR hw hc (by omega) (by omega) hs
set_option maxHeartbeats 1600000 in
/-- The reader r's block is g; what it reads is older than g's world W. -/
theorem number_any (b : List Int) (A : Option Addr) (n c g : Nat) (W w : World) (HR : ReadsInt W .u8 A n b) (hw : ∀ x ∈ b, (Lit.int .u8 x).wf = true) (hc : n ≤ c) (hs : 8 ≤ n) (hb : Below W.heap.size W w) (hg : W.heap.size ≤ g)
    (hcell : w.cell? ⟨g, 0, none⟩ = some (.slice A n c)) (hf : w.frozen? ⟨g, 0, none⟩ = false) :
    Calls Try.prog 23 #[.pointer (some ⟨g, 0, none⟩)] w fun e w' => e = .returned (.int .u64 (getN (b.take 8))) ∧ ∃ A', ReadsInt W .u8 A' (n - 8) (b.drop 8) ∧ w' = w.setCell ⟨g, 0, none⟩ (.slice A' (n - 8) (c - 8)) := by
  obtain ⟨i0, hi0, hs0⟩ := info8'
  obtain ⟨A1, hA1, hr1⟩ := print_cut (P := Try.prog) 22 5 .i64 Try.underlying22 hi0 hs0 A n c 8 hs
  have hA8 : ∀ W : World, (Instr.slice 22 (.slice A n c) (some (.int .i64 8)) none none).run Try.prog W = .ok (.slice A1 (n - 8) (c - 8)) W := hA1
  clear hA1
  have R1 := Lib.hid (hr1 _ _ _ hc HR)
  have HRH := Lib.hid (ReadsInt.below HR hb)
  have HW := Lib.hid hw
  have h8 : (8 : Int) ≤ (n : Int) := by omega
  clear HR hw hr1 hi0 hs0 i0 hb
  go_enter Try.func23, Try.ntmps23
  go_wp2_with fail
  refine (get_eight b A n c _ HRH.out HW.out hc hs).mono ?_; rintro e w' ⟨rfl, rfl⟩
  go_wp2_with fail
  go_ret
  exact ⟨rfl, A1, R1.out, rfl⟩
theorem info64 : (Try.prog.info? 23).map (fun i => (i.zero, i.size, i.bytes)) = some (some (.int .u64 0), 1, 8) := by kernel_rfl
def kth (b : List Int) (i : Nat) : Int := getN ((b.drop (8 * i)).take 8)
def ks (b : List Int) (k : Nat) : List Int := (List.range k).map (kth b)
theorem ks_length (b : List Int) (k : Nat) : (ks b k).length = k := by simp [ks]
theorem ks_succ (b : List Int) (k : Nat) : ks b (k + 1) = ks b k ++ [kth b k] := by unfold ks; rw [List.range_succ, List.map_append]; rfl
set_option maxRecDepth 100000 in
set_option maxHeartbeats 1600000 in
theorem numbers_any (b : List Int) (A : Option Addr) (n c g : Nat) (W w : World) (HR : ReadsInt W .u8 A n b) (hw : ∀ x ∈ b, (Lit.int .u8 x).wf = true) (hc : n ≤ c) (hs : 32 ≤ n) (hb : Below W.heap.size W w) (hg : W.heap.size ≤ g)
    (hcell : w.cell? ⟨g, 0, none⟩ = some (.slice A n c)) (hf : w.frozen? ⟨g, 0, none⟩ = false) :
    Calls Try.prog 22 #[.pointer (some ⟨g, 0, none⟩), .int .i64 4, .func (.func 23) #[] #[]] w fun e w' => ∃ A' c', e = .returned (.slice A' 4 c') ∧ w'.ownsRow W.heap.size 23 1 (.slice A' 4 c') 4 (nums .u64 (ks b 4)) ∧ Below W.heap.size W w' := by
  have HRH := Lib.hid HR
  have HW := Lib.hid hw
  have HB0 := Lib.hid hb
  have HC0 := Lib.hid hcell
  have HF0 := Lib.hid hf
  have hgl : g < w.heap.size := block_lt_of_cell hcell
  clear HR hw hb hcell hf
  go_enter Try.func22, Try.ntmps22
  go_wp2_with fail
  go_loopw [7, 9] (fun v i wr => ∃ (k : Nat) (A2 : Option Addr), k ≤ 4 ∧ i = .int .i64 k ∧ wr.ownsRow w.heap.size 23 1 v k (nums .u64 (ks b k)) ∧ ReadsInt W .u8 A2 (n - 8 * k) (b.drop (8 * k)) ∧ wr.cell? ⟨g, 0, none⟩ = some (.slice A2 (n - 8 * k) (c - 8 * k)) ∧ wr.frozen? ⟨g, 0, none⟩ = false ∧ w.heap.size ≤ wr.heap.size ∧ Below W.heap.size W wr) (fun _ i _ => 4 - (intOf i).toNat)
  case atStart => exact ⟨0, A, by omega, rfl, own_nil _ _ _ _, by simpa using HRH.out, by simpa using HC0.out, HF0.out, Nat.le_refl _, HB0.out⟩
  case round =>
    obtain ⟨k, A2, hk, rfl, ho, hr, hcell, hf, hsz, hb⟩ := hrel
    have HO := Lib.hid ho
    have HR := Lib.hid hr
    have HC := Lib.hid hcell
    have HF := Lib.hid hf
    have HB := Lib.hid hb
    clear ho hr hcell hf hb
    by_cases hlt : k < 4
    · go_wp2_with fail
      refine (number_any (b.drop (8 * k)) A2 (n - 8 * k) (c - 8 * k) g W wr HR.out (fun x hx => HW.out x (List.mem_of_mem_drop hx)) (by omega) (by omega) HB.out hg HC.out HF.out).mono ?_
      rintro e w2 ⟨rfl, A3, hr3, hw2⟩
      have e1 : (b.drop (8 * k)).drop 8 = b.drop (8 * (k + 1)) := by rw [List.drop_drop]; congr 1
      have e2 : n - 8 * k - 8 = n - 8 * (k + 1) := by omega
      have e3 : c - 8 * k - 8 = c - 8 * (k + 1) := by omega
      rw [e1, e2] at hr3
      rw [e2, e3] at hw2
      have hne : some g ≠ u7.ownBlock := fun h => by have := own_base HO.out g h.symm; omega
      have HO2 := Lib.hid (by rw [hw2]; rw [ks_length]; exact own_setCell HO.out (p := ⟨g, 0, none⟩) hne _ : w2.ownsRow w.heap.size 23 1 u7 (ks b k).length (nums .u64 (ks b k)))
      have HC2 := Lib.hid (by rw [hw2]; exact World.cell?_setCell_same _ _ _ HC.out : w2.cell? ⟨g, 0, none⟩ = some (.slice A3 (n - 8 * (k + 1)) (c - 8 * (k + 1))))
      have HF2 := Lib.hid (by rw [hw2, World.frozen?_setCell]; exact HF.out : w2.frozen? ⟨g, 0, none⟩ = false)
      have HB2 := Lib.hid (by rw [hw2]; exact HB.out.setCell hg _ : Below W.heap.size W w2)
      have hsz2 : w.heap.size ≤ w2.heap.size := by rw [hw2]; simpa [World.setCell] using hsz
      have HR3 := Lib.hid hr3
      obtain ⟨y, hy⟩ : ∃ y, kth b k = y := ⟨_, rfl⟩
      have HY := Lib.hid hy
      have hy' : getN ((b.drop (8 * k)).take 8) = y := hy
      rw [hy']
      have hkl : (ks b k).length * 8 ≤ 1000 := by rw [ks_length]; omega
      have HKL := Lib.hid hkl
      clear hr3 hw2 e1 e2 e3 hne hy hy' hkl
      go_wp2_with (at_builtin; refine print_append_num (w0 := w2) w.heap.size rfl _ _ 51 23 .u64 8 rfl Try.underlying51 info64 (by omega) u7 (ks b k) y rfl rfl HO2.out (Below.refl _ _) hsz2 (by have := HKL.out; omega) ?_)
      intro v3 w3 hown hb3 hg3 hat
      have HO3 := Lib.hid (by rw [ks_succ, HY.out]; rw [ks_length] at hown; exact hown : w3.ownsRow w.heap.size 23 1 v3 (k + 1) (nums .u64 (ks b (k + 1))))
      have HB3 := Lib.hid hb3
      clear hown hb3 hg3 hat
      go_wp2_with fail
      go_roundw
      case rel =>
        exact ⟨k + 1, A3, by omega, by go_num, HO3.out, HR3.out, (HB3.out.cell (p := ⟨g, 0, none⟩) hgl).trans HC2.out, (HB3.out.frozen (p := ⟨g, 0, none⟩) hgl).trans HF2.out, Nat.le_trans hsz2 HB3.out.size, HB2.out.trans (HB3.out.mono (by have := HB0.out.size; omega))⟩
      case measure => simp [intOf]; omega
    · obtain rfl : k = 4 := by omega
      obtain ⟨A5, c5, rfl⟩ := own_slice HO.out
      go_wp2_with fail
      go_ret
      exact ⟨A5, c5, rfl, own_weaken HO.out HB0.out.size, HB.out⟩
end Go.Proofs.Ytnnclfaibcedoaa.Sup
