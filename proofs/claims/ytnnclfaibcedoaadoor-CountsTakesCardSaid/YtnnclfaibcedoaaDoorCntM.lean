/- Counts: any pages' counts, or why there are none: the walk of CountsTakes. -/
import Derived.BigQuiet
import Derived.BigRegion
import Derived.Test.YtnnclfaibcedoaaDoorCntL
set_option linter.unusedVariables false
set_option linter.unusedSimpArgs false
namespace Go.Proofs.YtnnclfaibcedoaaDoor.Cnt
open Go Go.RowKit Go.Proofs.YtnnclfaibcedoaaDoorW.PrintWords Go.Proofs.YtnnclfaibcedoaaDoorW.PrintLast Go.Proofs.YtnnclfaibcedoaaDoorW.PrintMore Base Odr Hlp Trm

set_option maxRecDepth 100000 in
set_option maxHeartbeats 3200000 in
theorem takes_walk (A : Option Addr) (n c : Nat) (ps : List Pg) (b : Int) (w : World) (HR : ReadsP w A n ps) (hp : ∀ p ∈ ps, p.n ≤ 140737488351232) (hn : n * 24 ≤ 140737488351232) (h1 : -9223372036854775808 ≤ b) (h2 : b ≤ 9223372036854775807) :
    Calls Tryd.prog 3 #[.slice A n c, .int .i64 b] w fun e w' => e = .returned (.bool true) ∧ Below w.heap.size w w' := by
  have R0 := Lib.hid HR
  have HP := Lib.hid hp
  have HN := Lib.hid hn
  have HB := Lib.hid (And.intro h1 h2)
  clear HR hp hn h1 h2
  go_enter Tryd.func3, Tryd.ntmps3
  go_wp2_with fail
  refine (own_any A n c ps w R0.out HP.out HN.out).mono ?_; rintro e w1 ⟨A1, c1, qs, rfl, hq, ho, hm, hb⟩
  obtain ⟨A1', c1', e1, hr⟩ := ho.reads
  injection e1 with e1 e1n e1c
  subst e1
  clear e1n e1c
  rw [hq] at hr
  have R1 := Lib.hid hr
  have M1 := Lib.hid hm
  have B1 := Lib.hid hb
  have P1 := Lib.hid (R0.out.below hb)
  clear hq ho hm hb hr
  obtain ⟨er, he⟩ : ∃ er, tkE (ps.map Pg.bs) b = er := ⟨_, rfl⟩
  obtain ⟨l, hl⟩ : ∃ l, tkL (ps.map Pg.bs) b = l := ⟨_, rfl⟩
  have EL := Lib.hid (And.intro he hl)
  clear he hl
  go_wp2_with fail
  have q1 : tkE (qs.map Pg.bs) b = er := (congrArg (fun L => tkE L b) M1.out).trans EL.out.1
  have q2 : tkL (qs.map Pg.bs) b = l := (congrArg (fun L => tkL L b) M1.out).trans EL.out.2
  have hcall := take_at (c := c1) _ R1.out HB.out.1 HB.out.2 q1 q2
  clear q1 q2
  refine hcall.mono ?_
  intro e w2 hh
  obtain ⟨A2, m, C, rfl, ho, hb⟩ := hh
  have O2 := Lib.hid ho
  have B2 := Lib.hid hb
  have P2 := Lib.hid (P1.out.below hb)
  have m9 : m ≤ 9223372036854775807 := (reads_own ho).2.1
  clear ho hb
  go_wp2_with fail
  refine (rtake_at (er := er) (l := l) _ P2.out HB.out.1 HB.out.2 EL.out.1 EL.out.2).mono ?_; rintro e w3 ⟨A3, m3, c3, rfl, hr, hb⟩
  have ho3 := pw_own_below O2.out hb
  have O3 := Lib.hid ho3
  have B3 := Lib.hid (below_then B2.out B2.out.size hb)
  have CX := str_of (c := m) (reads_own ho3)
  have CY := str_of (c := c3) hr
  clear hr hb ho3
  go_wp2_with fail
  go_loopw [11] (fun iv wr => ∃ (k : Nat) (ys : List Int), k ≤ m ∧ iv = .int .i64 (k : Int) ∧ wr.ownsRow w1.heap.size 5 1 (.slice A2 m C) m (nums .u8 ys) ∧ Below w1.heap.size w1 wr) (fun iv _ => m - (intOf iv).toNat)
  case atStart => exact ⟨0, l, by omega, rfl, O3.out, B3.out⟩
  case round =>
    obtain ⟨k, ys, hk, rfl, ho, hb⟩ := hrel
    clear CX CY
    by_cases hlt : k < m
    · have dk : decide ((k : Int) < (m : Int)) = true := decide_eq_true (by omega)
      obtain ⟨g, cap, hg, -, -⟩ := ho.form (by omega)
      injection hg with hg1 hg2 hg3
      subst hg1
      clear hg2
      obtain ⟨hc, hz⟩ := own_at ho (k : Int) (by omega) (by omega)
      have hst := own_store ho (k : Int) (bits BinOp.xor IntKind.u8 (rd ys (k : Int)) 1)
      rw [Int.toNat_natCast] at hc hz hst
      obtain ⟨y, hy⟩ : ∃ y, rd ys (k : Int) = y := ⟨_, rfl⟩
      rw [hy] at hc hst
      have hgb := own_base ho g rfl
      have ST := Lib.hid hst.1
      have BS := Lib.hid (hb.setCell (p := ⟨g, k, none⟩) hgb (.int .u8 (bits BinOp.xor IntKind.u8 y 1)))
      have KK := Lib.hid hlt
      clear ho hb hk hst hgb hy
      go_wp2_with fail
      go_roundw
      case rel => exact ⟨k + 1, _, KK.out, by push_cast; rfl, ST.out, BS.out⟩
      case measure => have := KK.out; simp [intOf]; omega
    · obtain rfl : k = m := by omega
      have dk : decide ((k : Int) < (k : Int)) = false := decide_eq_false (by omega)
      have BB := Lib.hid hb
      clear ho hb hk hlt
      go_wp2_with fail
      refine (same_yes A1 A n c1 c qs ps _ (R1.out.below BB.out) (P1.out.below BB.out) (by have := HN.out; omega) M1.out).mono ?_; rintro e w5 ⟨rfl, hb⟩
      have B5 := Lib.hid (below_then B1.out B1.out.size (below_then BB.out BB.out.size hb))
      clear hb
      go_wp2_with fail
      refine (wakes_any _).mono ?_; rintro e w6 ⟨rfl, hb⟩
      have B6 := Lib.hid (below_then B5.out B5.out.size hb)
      clear hb
      go_wp2_with fail
      go_ret
      exact ⟨rfl, B6.out⟩
theorem takes_row (A : Option Addr) (n c : Nat) (ps : List Pg) (w : World) (HR : ReadsP w A n ps) (hp : ∀ p ∈ ps, p.n ≤ 140737488351232) (hn : n * 24 ≤ 140737488351232) (hw : ∀ p ∈ ps, ∀ x ∈ p.bs, (Lit.int .u8 x).wf = true) (hc : n ≤ c) (b : Int) (wb : (Lit.int .i64 b).wf = true) :
    Calls Tryd.prog 3 #[.slice A n c, .int .i64 b] w fun e w' => e = .returned (.bool true) ∧ Below w.heap.size w w' := takes_walk A n c ps b w HR hp hn (le_of_wf64 wb).1 (le_of_wf64 wb).2
end Go.Proofs.YtnnclfaibcedoaaDoor.Cnt
