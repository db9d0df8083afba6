/- Counts: wakes, by its contract. -/
import Derived.BigQuiet
import Derived.Test.YtnnclfaibcedoaaDoorCntK
set_option linter.unusedVariables false
set_option linter.unusedSimpArgs false
namespace Go.Proofs.YtnnclfaibcedoaaDoor.Cnt
open Go Go.RowKit Go.Proofs.YtnnclfaibcedoaaDoorW.PrintWords Go.Proofs.YtnnclfaibcedoaaDoorW.PrintLast Go.Proofs.YtnnclfaibcedoaaDoorW.PrintMore Base Odr Hlp Trm

theorem put_at {A : Option Addr} {n c m : Nat} {cs : List Int} (w : World) (HR : ReadsInt w .u8 A n cs) (hnc : n ≤ c) (hn : n ≤ 140737488351232) (hm : np n = m) :
    Calls Tryd.prog 12 #[.slice A n c] w fun e w' => ∃ A' c' qs, e = .returned (.slice A' m c') ∧ qs.length = m ∧ OwnsP w' w.heap.size (.slice A' m c') qs ∧ ReadsP w' A' m qs ∧ qs.map Pg.bs = pgs cs ∧ Below w.heap.size w w' := by
  subst hm
  refine (put_any A n c cs w HR hnc hn).mono ?_
  rintro e w' ⟨A', c', qs, rfl, hl, ho, hq, hb⟩
  obtain ⟨A2, c2, e2, hr⟩ := ho.reads
  injection e2 with h1
  subst h1
  rw [hl] at hr
  exact ⟨A', c', qs, rfl, hl, ho, hr, hq, hb⟩
theorem got_len {w : World} {base m C : Nat} {A : Option Addr} {l : List Int} (h : w.ownsRow base 5 1 (.slice A m C) m (nums .u8 l)) : l.length = m := (reads_own h).1
set_option maxRecDepth 100000 in
set_option maxHeartbeats 3200000 in
theorem wakes_any (w : World) : Calls Tryd.prog 11 #[] w fun e w' => e = .returned (.bool true) ∧ Below w.heap.size w w' := by
  obtain ⟨w1, hw1, b1, f1, s1⟩ := made w #[.int .u8 1, .int .u8 2, .int .u8 3] 5
  have L1 := Lib.hid (row_reads (k := .u8) (xs := [1, 2, 3]) f1 (by simp))
  have B1 := Lib.hid b1
  clear b1 f1 s1
  go_enter Tryd.func11, Tryd.ntmps11
  go_wp2_with fail
  refine (put_at (cs := [1, 2, 3]) (m := 1) _ L1.out (by simp) (by simp) (by rfl)).mono ?_; rintro e w2 ⟨A2, c2, qs, rfl, -, -, hr, hq, hb⟩
  have R2 := Lib.hid hr
  have Q2 := Lib.hid hq
  have B2 := Lib.hid (below_then B1.out B1.out.size hb)
  clear hr hq hb
  go_wp2_with fail
  refine (take_at (er := 0) (l := [1, 2, 3]) _ R2.out (by omega) (by omega) (by rw [Q2.out]; kernel_rfl) (by rw [Q2.out]; kernel_rfl)).mono ?_; rintro e w3 ⟨A3, m3, C3, rfl, ho, hb⟩
  obtain rfl : 3 = m3 := got_len ho
  have S3 := Lib.hid (reads_own ho)
  have R3 := Lib.hid (R2.out.below hb)
  have B3 := Lib.hid (below_then B2.out B2.out.size hb)
  clear ho hb
  go_wp2_with fail
  refine (take_at (er := 5) (l := []) _ R3.out (by omega) (by omega) (by rw [Q2.out]; kernel_rfl) (by rw [Q2.out]; kernel_rfl)).mono ?_; rintro e w4 ⟨A4, m4, C4, rfl, ho, hb⟩
  have S4 := S3.out.below hb
  have hstr : (convert 24 9 (.slice A3 3 3)).run Tryd.prog w4 = .ok (.string { data := #[1, 2, 3] }) w4 := str_of S4
  obtain ⟨a, p, rfl, hpj, hc, hrp⟩ := (R3.out.below hb).get 0 (by omega)
  obtain ⟨pa, pn, pc, pb⟩ := p
  have hpb : pb = page [1, 2, 3] 0 := by
    have h1 : (qs.map Pg.bs)[0]? = (pgs [1, 2, 3])[0]? := by rw [Q2.out]
    rw [List.getElem?_map, hpj] at h1
    have h2 : (pgs [1, 2, 3])[0]? = some (page [1, 2, 3] 0) := rfl
    rw [h2] at h1
    simpa using h1
  dsimp only at hc hrp
  have hpn : pn = 240 := by rw [← hrp.1, hpb, page_length]
  subst hpn
  obtain ⟨ad, rfl, hx⟩ := cell_at hrp 2 (by omega)
  have hx3 : pb.getD 2 0 = 3 := by rw [hpb]; rfl
  rw [hx3] at hx
  have hca : w4.cell? a = some (.slice (some ad) 240 pc) := by simpa [Addr.add] using hc
  have hxa : w4.cell? ⟨ad.block, ad.off + 2, none⟩ = some (.int .u8 3) := by simpa [Addr.add] using hx
  have B4 := Lib.hid (below_then B3.out B3.out.size hb)
  clear ho hb S4 hpj hrp hpb hx3 hc hw1
  go_wp2_with fail
  refine (pages_any (r := 2) _ (by omega) (by omega) (by rfl)).mono ?_; rintro e w5 ⟨rfl, rfl⟩
  go_wp2_with fail
  go_ret
  exact ⟨rfl, B4.out⟩
end Go.Proofs.YtnnclfaibcedoaaDoor.Cnt
