/- Counts: pages in memory of their own; the same pages, by their contracts (every input). -/
import Derived.BigQuiet
import Derived.Test.YtnnclfaibcedoaaDoorCntB
set_option linter.unusedVariables false
set_option linter.unusedSimpArgs false
namespace Go.Proofs.YtnnclfaibcedoaaDoor.Cnt
open Go Go.RowKit Go.Proofs.YtnnclfaibcedoaaDoorW.PrintWords Go.Proofs.YtnnclfaibcedoaaDoorW.PrintLast Go.Proofs.YtnnclfaibcedoaaDoorW.PrintMore Base Odr Hlp Trm

theorem bs_take {ps qs : List Pg} {j : Nat} {p q : Pg} (h : qs.map Pg.bs = (ps.map Pg.bs).take j) (hp : ps[j]? = some p) (hq : q.bs = p.bs) : (qs ++ [q]).map Pg.bs = (ps.map Pg.bs).take (j + 1) := by
  rw [List.map_append, h, List.take_add_one, List.getElem?_map, hp]
  simp [hq]
set_option maxRecDepth 100000 in
set_option maxHeartbeats 1600000 in
theorem own_any (A : Option Addr) (n c : Nat) (ps : List Pg) (w : World) (HR : ReadsP w A n ps) (hp : ∀ p ∈ ps, p.n ≤ 140737488351232) (hn : n * 24 ≤ 140737488351232) :
    Calls Tryd.prog 7 #[.slice A n c] w fun e w' => ∃ A' c' qs, e = .returned (.slice A' n c') ∧ qs.length = n ∧ OwnsP w' w.heap.size (.slice A' n c') qs ∧ qs.map Pg.bs = ps.map Pg.bs ∧ Below w.heap.size w w' := by
  have R0 := Lib.hid HR
  have L0 := Lib.hid HR.row.1
  have HP := Lib.hid hp
  have HN := Lib.hid hn
  clear HR hp hn
  go_enter Tryd.func7, Tryd.ntmps7
  go_wp2_with fail
  go_loopw [3, 4] (fun v i wr => ∃ (j : Nat) (A' : Option Addr) (c' : Nat) (qs : List Pg), j ≤ n ∧ i = .int .i64 (j : Int) ∧ v = .slice A' j c' ∧ qs.length = j ∧ OwnsP wr w.heap.size (.slice A' j c') qs ∧ qs.map Pg.bs = (ps.map Pg.bs).take j ∧ Below w.heap.size w wr) (fun _ i _ => n - (intOf i).toNat)
  case atStart => exact ⟨0, none, 0, [], by omega, rfl, rfl, rfl, OwnsP.nil _ _, by simp, Below.refl _ _⟩
  case round =>
    obtain ⟨j, A', c', qs, hj, rfl, rfl, hq, ho, hm, hb⟩ := hrel
    by_cases hlt : j < n
    · have dk : decide ((j : Int) < (n : Int)) = true := decide_eq_true (by omega)
      have hn9 : (n : Int) ≤ 140737488351232 := by have := HN.out; omega
      obtain ⟨a, p, rfl, hpj, hc, hr⟩ := (R0.out.below hb).get j hlt
      obtain ⟨pa, pn, pc, pb⟩ := p
      have hpn : pn ≤ 140737488351232 := HP.out _ (List.mem_of_getElem? hpj)
      have HR := Lib.hid hr
      have PN := Lib.hid hpn
      have PJ := Lib.hid hpj
      have OQ := Lib.hid ho
      have QL := Lib.hid hq
      have HM := Lib.hid hm
      have BB := Lib.hid hb
      have JJ := Lib.hid (show j + 1 ≤ n ∧ n * 24 ≤ 140737488351232 from ⟨hlt, HN.out⟩)
      clear hr hpn hpj ho hq hm hb hj
      dsimp only at hc
      go_wp2_with (at_builtin; refine print_append_row (w0 := wr) (W := wr) wr.heap.size rfl _ _ 24 5 .u8 1 rfl Tryd.underlying24 info8 (by omega) (.slice none 0 0) [] pb pa pn pc rfl rfl (own_nil _ _ _ _) HR.out (Below.refl _ _) (Nat.le_refl _) (by have := PN.out; simp; omega) ?_)
      intro v3 w3 hown hb3 hg3 hat
      have hown' : w3.ownsRow wr.heap.size 5 1 v3 pn (nums .u8 pb) := by have := HR.out.1; simpa [this] using hown
      obtain ⟨A3, c3, rfl⟩ := own_slice hown'
      have O3 := Lib.hid hown'
      have B3 := Lib.hid hb3
      clear hown hown' hb3 hg3 hat
      go_wp2_with (at_builtin; refine print_append_of (w0 := w) (W := w3) sl w.heap.size rfl _ _ 22 24 (.slice none 0 0) 24 rfl Tryd.underlying22 info24 rfl (by omega) (.slice A' j c') qs ⟨A3, pn, c3, pb⟩ rfl (by simp [Act.eval, Act.put]) rfl (by have := OQ.out.below B3.out; rw [← QL.out]; have := this.row; rw [QL.out] at this ⊢; exact this) (below_then BB.out BB.out.size B3.out) (Nat.le_trans BB.out.size B3.out.size) (by have := JJ.out; have := QL.out; omega) ?_)
      intro v5 w5 hown hb5 hg5 hat
      have ho5 : OwnsP w5 w.heap.size v5 (qs ++ [⟨A3, pn, c3, pb⟩]) := (OQ.out.below B3.out).app (own_weaken O3.out BB.out.size) (by simpa using hown) hg5
      have hl5 : (qs ++ [(⟨A3, pn, c3, pb⟩ : Pg)]).length = j + 1 := by rw [List.length_append, QL.out]; rfl
      obtain ⟨A5, c5, e5, -⟩ := ho5.reads
      rw [hl5] at e5
      subst e5
      have O5 := Lib.hid ho5
      have L5 := Lib.hid hl5
      have B5 := Lib.hid hb5
      clear hown hb5 hg5 hat ho5 hl5
      go_wp2_with fail
      go_roundw
      case rel => exact ⟨j + 1, A5, c5, _, JJ.out.1, by push_cast; rfl, rfl, L5.out, O5.out, bs_take HM.out PJ.out rfl, B5.out⟩
      case measure => have := JJ.out.1; simp [intOf]; omega
    · have hj' : j = n := by omega
      have dk : decide ((j : Int) < (n : Int)) = false := decide_eq_false (by omega)
      have OQ := Lib.hid ho
      have QL := Lib.hid hq
      have HM := Lib.hid hm
      have BB := Lib.hid hb
      clear ho hq hm hb hlt
      subst hj'
      go_wp2_with fail
      go_ret
      exact ⟨A', c', qs, rfl, QL.out, OQ.out, by rw [HM.out, List.take_of_length_le]; rw [List.length_map, L0.out]; exact Nat.le_refl _, BB.out⟩
end Go.Proofs.YtnnclfaibcedoaaDoor.Cnt
