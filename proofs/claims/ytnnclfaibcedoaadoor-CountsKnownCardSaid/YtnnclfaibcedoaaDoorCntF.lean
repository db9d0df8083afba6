/- Counts: the document's Put, by its contract (every input). -/
import Derived.BigQuiet
import Derived.BigRegion
import Derived.Test.YtnnclfaibcedoaaDoorCntE
set_option linter.unusedVariables false
set_option linter.unusedSimpArgs false
namespace Go.Proofs.YtnnclfaibcedoaaDoor.Cnt
open Go Go.RowKit Go.Proofs.YtnnclfaibcedoaaDoorW.PrintWords Go.Proofs.YtnnclfaibcedoaaDoorW.PrintLast Go.Proofs.YtnnclfaibcedoaaDoorW.PrintMore Base Odr Hlp Trm

set_option maxRecDepth 100000 in
set_option maxHeartbeats 3200000 in
theorem rput_any (A : Option Addr) (n c : Nat) (cs : List Int) (w : World) (HR : ReadsInt w .u8 A n cs) (hn : n ≤ 140737488351232) :
    Calls Tryd.prog 15 #[.slice A n c] w fun e w' => ∃ A' c' qs, e = .returned (.slice A' (np n) c') ∧ qs.length = np n ∧ OwnsP w' w.heap.size (.slice A' (np n) c') qs ∧ qs.map Pg.bs = pgs cs ∧ Below w.heap.size w w' := by
  have R0 := Lib.hid HR
  have L0 := Lib.hid HR.1
  have HN := Lib.hid hn
  clear HR hn
  go_enter Tryd.func15, Tryd.ntmps15
  go_wp2_with fail
  go_loopw [3, 4] (fun v iv wr => ∃ (i m : Nat) (A' : Option Addr) (c' : Nat) (qs : List Pg), i ≤ n ∧ iv = .int .i64 (i : Int) ∧ m = np i ∧ v = .slice A' m c' ∧ qs.length = m ∧ OwnsP wr w.heap.size (.slice A' m c') qs ∧ Sep qs ∧ qs.map Pg.bs = pgs (cs.take i) ∧ Below w.heap.size w wr) (fun _ iv _ => n - (intOf iv).toNat)
  case atStart => exact ⟨0, 0, none, 0, [], by omega, rfl, rfl, rfl, rfl, OwnsP.nil _ _, sep_nil, by simp [pgs_nil], Below.refl _ _⟩
  case round =>
    obtain ⟨i, m, A', c', qs, hi, rfl, hm, rfl, hq, ho, hs, hmp, hb⟩ := hrel
    have OQ := Lib.hid ho
    have QL := Lib.hid hq
    have QS := Lib.hid hs
    have HM := Lib.hid hmp
    have MM := Lib.hid hm
    have BB := Lib.hid hb
    clear ho hq hs hmp hm
    by_cases hlt : i < n
    · have hn9 : (n : Int) ≤ 140737488351232 := by have := HN.out; omega
      obtain ⟨ac, rfl, hx⟩ := cell_at (ReadsInt.below R0.out hb) i hlt
      obtain ⟨x, hxx⟩ : ∃ x, cs.getD i 0 = x := ⟨_, rfl⟩
      rw [hxx] at hx
      have HX := Lib.hid hxx
      obtain ⟨k, hk⟩ : ∃ k, i / 240 = k := ⟨_, rfl⟩
      obtain ⟨r, hr⟩ : ∃ r, i % 240 = r := ⟨_, rfl⟩
      have KR := Lib.hid (show i / 240 = k ∧ i % 240 = r ∧ i = 240 * k + r ∧ r < 240 by omega)
      have q1 : Int.tdiv (i : Int) 240 = (k : Int) := by rw [Int.tdiv_eq_ediv_of_nonneg (by omega)]; omega
      have q2 : Int.tmod (i : Int) 240 = (r : Int) := by rw [Int.tmod_eq_emod_of_nonneg (by omega)]; omega
      have hk9 : (k : Int) ≤ 140737488351232 := by omega
      have JJ := Lib.hid (show i < cs.length ∧ i < n ∧ n ≤ 140737488351232 by have := L0.out; have := HN.out; omega)
      clear hxx hk hr hb hi
      by_cases h0 : r = 0
      · have d0 : ((r : Int) == 0) = true := by rw [h0]; rfl
        have d0' : decide ((r : Int) = 0) = true := decide_eq_true (by omega)
        have R0' := Lib.hid h0
        clear h0
        have hmk := make240
        obtain ⟨w3, hw3, b3, f3, s3⟩ := made wr (madeCells #[.int .u8 0] 240) 5
        have O3 := Lib.hid (show w3.ownsRow w.heap.size 5 1 (.slice (some ⟨wr.heap.size, 0, none⟩) 240 240) 240 (nums .u8 (List.replicate 240 0)) by rw [← hw3]; exact own_made wr w.heap.size 5 .u8 240 BB.out.size (by omega))
        have B3 := Lib.hid b3
        clear b3 f3 s3
        go_wp2_with (at_builtin; refine print_append_of (w0 := w) (W := w3) sl w.heap.size rfl _ _ 22 24 (.slice none 0 0) 24 rfl Tryd.underlying22 info24 rfl (by omega) (.slice A' m c') qs ⟨some ⟨wr.heap.size, 0, none⟩, 240, 240, List.replicate 240 0⟩ rfl (by simp [Act.eval, Act.put]) rfl (by have := (OQ.out.below B3.out).row; exact this) (below_then BB.out BB.out.size B3.out) (Nat.le_trans BB.out.size B3.out.size) (by have := JJ.out; have := QL.out; have := MM.out; unfold np at this; omega) ?_)
        intro v5 w5 hown hb5 hg5 hat
        have ho5 : OwnsP w5 w.heap.size v5 (qs ++ [⟨some ⟨wr.heap.size, 0, none⟩, 240, 240, List.replicate 240 0⟩]) := (OQ.out.below B3.out).app O3.out (by simpa using hown) hg5
        have hs5 : Sep (qs ++ [⟨some ⟨wr.heap.size, 0, none⟩, 240, 240, List.replicate 240 0⟩]) := sep_app OQ.out QS.out _ (fun b hb => by have hb' : some wr.heap.size = some b := hb; injection hb' with hb'; omega)
        have hm5 : (qs ++ [(⟨some ⟨wr.heap.size, 0, none⟩, 240, 240, List.replicate 240 0⟩ : Pg)]).map Pg.bs = up cs i := by rw [List.map_append, HM.out]; exact up_new cs i JJ.out.1 (by have := KR.out; have := R0'.out; omega)
        have hl5 : (qs ++ [(⟨some ⟨wr.heap.size, 0, none⟩, 240, 240, List.replicate 240 0⟩ : Pg)]).length = k + 1 := by rw [List.length_append, QL.out, MM.out]; have := KR.out; have := R0'.out; unfold np; simp; omega
        obtain ⟨QX, hQX⟩ : ∃ QX, qs ++ [(⟨some ⟨wr.heap.size, 0, none⟩, 240, 240, List.replicate 240 0⟩ : Pg)] = QX := ⟨_, rfl⟩
        rw [hQX] at ho5 hs5 hm5 hl5
        obtain ⟨M, hM⟩ : ∃ M, M = k + 1 := ⟨_, rfl⟩
        rw [← hM] at hl5
        have KM := Lib.hid hM
        clear hM
        obtain ⟨A5, c5, e5, -⟩ := ho5.reads
        rw [hl5] at e5
        subst e5
        obtain ⟨ac', hac, x6⟩ := cell_at (ReadsInt.below R0.out hb5) i JJ.out.2.1
        cases hac
        rw [HX.out] at x6
        have OX := Lib.hid ho5
        have XS := Lib.hid hs5
        have XM := Lib.hid hm5
        have XL := Lib.hid hl5
        have XB := Lib.hid hb5
        clear hown hb5 hg5 hat ho5 hs5 hm5 hl5 hQX hw3 hx

        obtain ⟨Ae, ce, ee, hrp⟩ := OX.out.reads
        injection ee with ee1 ee2 ee3
        subst ee1
        clear ee2 ee3
        obtain ⟨a5, p, hae, hpk, hcp, hrpp⟩ := hrp.get k (by have := XL.out; have := KR.out; have := KM.out; omega)
        subst hae
        obtain ⟨pa, pn, pc, pb⟩ := p
        dsimp only at hcp hrpp
        have hpb : pb = page (cs.take i) k := by
          have h1 : (QX.map Pg.bs)[k]? = (up cs i)[k]? := by rw [XM.out]
          rw [List.getElem?_map, hpk] at h1
          unfold up at h1
          rw [List.getElem?_map, KR.out.1, List.getElem?_range (Nat.lt_succ_self _)] at h1
          simpa using h1
        have hpn : pn = 240 := by rw [← hrpp.1, hpb, page_length]
        subst hpn
        obtain ⟨gp, pcap, hpa, -, -⟩ := (OX.out.pgs _ (List.mem_of_getElem? hpk)).form (by show 0 < 240; omega)
        have hgb : w.heap.size ≤ gp := own_base (OX.out.pgs _ (List.mem_of_getElem? hpk)) gp (by rw [hpa]; rfl)
        have GB := Lib.hid hgb
        injection hpa with hpa1 hpa2 hpa3
        clear hgb hpa2
        subst hpa3
        dsimp only at hpa1
        obtain ⟨ad, had⟩ : ∃ ad : Addr, (⟨gp, 0, none⟩ : Addr) = ad := ⟨_, rfl⟩
        have hadd : ∀ r : Nat, ad.add r = ⟨gp, r, none⟩ := fun r => by rw [← had, add_plain]
        rw [had] at hpa1
        subst hpa1
        have HOP := OX.out.pgs _ (List.mem_of_getElem? hpk)
        dsimp only [sl] at HOP
        rw [← had] at HOP
        obtain ⟨hy, hz⟩ := own_at HOP (r : Int) (by omega) (by have := KR.out; omega)
        rw [Int.toNat_natCast, ← hadd r] at hy hz
        obtain ⟨y, hyy⟩ : ∃ y, rd pb (r : Int) = y := ⟨_, rfl⟩
        rw [hyy] at hy
        have PK := Lib.hid hpk
        have PB := Lib.hid hpb
        have AD := Lib.hid hadd
        have AG := Lib.hid had
        have dr : (r : Int) < 240 := by have := KR.out; omega
        have dkm : (k : Int) < (M : Int) := by have := XL.out; have := KR.out; have := KM.out; omega
        have hkm : k < M := by omega
        have hrm : r < 240 := by omega
        clear hrp hrpp hpk hpb HOP hyy hadd had
        go_wp2_with fail
        go_region
        have hst := OwnsP.store OX.out XS.out PK.out (g := gp) (congrArg some AG.out.symm) r x
        rw [← AD.out r] at hst
        obtain ⟨hst, hss⟩ := hst
        have HST := Lib.hid hst
        have HSS := Lib.hid hss
        have HBW : Below w.heap.size w ((w5.setCell (ad.add r) (.int .u8 x)).drew) := below_drew (XB.out.setCell (by rw [AD.out]; exact GB.out) _)
        have HB6 := Lib.hid HBW
        clear hst hss HBW
        obtain ⟨w6, hw6⟩ : ∃ w6, (w5.setCell (ad.add r) (.int .u8 x)) = w6 := ⟨_, rfl⟩
        rw [hw6] at HST HB6 ⊢
        clear hw6
        go_wp2_with fail
        go_roundw
        case rel =>
          refine ⟨i + 1, M, some a5, _, _, JJ.out.2.1, by push_cast; rfl, by have := KR.out; have := XL.out; have := KM.out; unfold np; omega, rfl, by rw [List.length_set]; exact XL.out, ⟨HST.out.row, HST.out.pgs⟩, HSS.out, ?_, HB6.out⟩
          rw [List.map_set, XM.out]
          have h9 := up_set cs i JJ.out.1
          rw [KR.out.1, KR.out.2.1, HX.out, ← PB.out] at h9
          exact h9
        case measure => have := JJ.out; simp [intOf]; omega

      · have d0 : ((r : Int) == 0) = false := by simp; omega
        have d0' : decide ((r : Int) = 0) = false := decide_eq_false (by omega)
        have R0' := Lib.hid h0
        have OX := OQ
        have XS := QS
        have XM := Lib.hid (show qs.map Pg.bs = up cs i by rw [HM.out]; exact up_old cs i JJ.out.1 (by have := KR.out; omega))
        have XL := QL
        have XB := BB
        have hmk1 : m = k + 1 := by rw [MM.out]; unfold np; have := KR.out; omega
        have KM := Lib.hid hmk1
        clear hmk1 h0

        obtain ⟨Ae, ce, ee, hrp⟩ := OX.out.reads
        injection ee with ee1 ee2 ee3
        subst ee1
        clear ee2 ee3
        obtain ⟨a5, p, hae, hpk, hcp, hrpp⟩ := hrp.get k (by have := XL.out; have := KR.out; have := KM.out; omega)
        subst hae
        obtain ⟨pa, pn, pc, pb⟩ := p
        dsimp only at hcp hrpp
        have hpb : pb = page (cs.take i) k := by
          have h1 : (qs.map Pg.bs)[k]? = (up cs i)[k]? := by rw [XM.out]
          rw [List.getElem?_map, hpk] at h1
          unfold up at h1
          rw [List.getElem?_map, KR.out.1, List.getElem?_range (Nat.lt_succ_self _)] at h1
          simpa using h1
        have hpn : pn = 240 := by rw [← hrpp.1, hpb, page_length]
        subst hpn
        obtain ⟨gp, pcap, hpa, -, -⟩ := (OX.out.pgs _ (List.mem_of_getElem? hpk)).form (by show 0 < 240; omega)
        have hgb : w.heap.size ≤ gp := own_base (OX.out.pgs _ (List.mem_of_getElem? hpk)) gp (by rw [hpa]; rfl)
        have GB := Lib.hid hgb
        injection hpa with hpa1 hpa2 hpa3
        clear hgb hpa2
        subst hpa3
        dsimp only at hpa1
        obtain ⟨ad, had⟩ : ∃ ad : Addr, (⟨gp, 0, none⟩ : Addr) = ad := ⟨_, rfl⟩
        have hadd : ∀ r : Nat, ad.add r = ⟨gp, r, none⟩ := fun r => by rw [← had, add_plain]
        rw [had] at hpa1
        subst hpa1
        have HOP := OX.out.pgs _ (List.mem_of_getElem? hpk)
        dsimp only [sl] at HOP
        rw [← had] at HOP
        obtain ⟨hy, hz⟩ := own_at HOP (r : Int) (by omega) (by have := KR.out; omega)
        rw [Int.toNat_natCast, ← hadd r] at hy hz
        obtain ⟨y, hyy⟩ : ∃ y, rd pb (r : Int) = y := ⟨_, rfl⟩
        rw [hyy] at hy
        have PK := Lib.hid hpk
        have PB := Lib.hid hpb
        have AD := Lib.hid hadd
        have AG := Lib.hid had
        have dr : (r : Int) < 240 := by have := KR.out; omega
        have dkm : (k : Int) < (m : Int) := by have := XL.out; have := KR.out; have := KM.out; omega
        have hkm : k < m := by omega
        have hrm : r < 240 := by omega
        clear hrp hrpp hpk hpb HOP hyy hadd had
        go_wp2_with fail
        go_region
        have hst := OwnsP.store OX.out XS.out PK.out (g := gp) (congrArg some AG.out.symm) r x
        rw [← AD.out r] at hst
        obtain ⟨hst, hss⟩ := hst
        have HST := Lib.hid hst
        have HSS := Lib.hid hss
        have HBW : Below w.heap.size w ((wr.setCell (ad.add r) (.int .u8 x)).drew) := below_drew (XB.out.setCell (by rw [AD.out]; exact GB.out) _)
        have HB6 := Lib.hid HBW
        clear hst hss HBW
        obtain ⟨w6, hw6⟩ : ∃ w6, (wr.setCell (ad.add r) (.int .u8 x)) = w6 := ⟨_, rfl⟩
        rw [hw6] at HST HB6 ⊢
        clear hw6
        go_wp2_with fail
        go_roundw
        case rel =>
          refine ⟨i + 1, m, some a5, _, _, JJ.out.2.1, by push_cast; rfl, by have := KR.out; have := XL.out; have := KM.out; unfold np; omega, rfl, by rw [List.length_set]; exact XL.out, ⟨HST.out.row, HST.out.pgs⟩, HSS.out, ?_, HB6.out⟩
          rw [List.map_set, XM.out]
          have h9 := up_set cs i JJ.out.1
          rw [KR.out.1, KR.out.2.1, HX.out, ← PB.out] at h9
          exact h9
        case measure => have := JJ.out; simp [intOf]; omega

    · obtain rfl : i = n := by omega
      have dk : decide ((i : Int) < (i : Int)) = false := decide_eq_false (by omega)
      have HB := Lib.hid hb
      clear hb hi hlt
      go_wp2_with fail
      go_ret
      have := MM.out
      subst this
      exact ⟨A', c', qs, rfl, QL.out, OQ.out, by rw [HM.out, ← L0.out, pgs_all], HB.out⟩
end Go.Proofs.YtnnclfaibcedoaaDoor.Cnt
