/- Counts: any counts' pages, all, and any one: the walk of CountsPuts. -/
import Derived.BigQuiet
import Derived.BigRegion
import Derived.Test.YtnnclfaibcedoaaDoorCntL
set_option linter.unusedVariables false
set_option linter.unusedSimpArgs false
namespace Go.Proofs.YtnnclfaibcedoaaDoor.Cnt
open Go Go.RowKit Go.Proofs.YtnnclfaibcedoaaDoorW.PrintWords Go.Proofs.YtnnclfaibcedoaaDoorW.PrintLast Go.Proofs.YtnnclfaibcedoaaDoorW.PrintMore Base Odr Hlp Trm

/-- A list of pages of the call's own, whatever stands in them. -/
structure OwnsW (W : World) (base : Nat) (v : Value) (ps : List Pg) : Prop where
  row : W.ownsRow base 24 1 v ps.length (encs sl ps)
  pgs : ∀ p ∈ ps, ∃ bs, W.ownsRow base 5 1 (sl p) p.n (nums .u8 bs)
theorem OwnsW.of {W : World} {base : Nat} {v : Value} {ps : List Pg} (h : OwnsP W base v ps) : OwnsW W base v ps := ⟨h.row, fun p hp => ⟨_, h.pgs p hp⟩⟩
theorem OwnsW.below {W W' : World} {base : Nat} {v : Value} {ps : List Pg} (h : OwnsW W base v ps) (b : Below W.heap.size W W') : OwnsW W' base v ps := ⟨pw_own_below h.row b, fun p hp => by
  obtain ⟨bs, hb⟩ := h.pgs p hp
  exact ⟨bs, pw_own_below hb b⟩⟩
theorem OwnsW.store {W : World} {base : Nat} {v : Value} {qs : List Pg} {p : Pg} (h : OwnsW W base v qs) (hp : p ∈ qs) {g : Nat} (hg : p.ad = some ⟨g, 0, none⟩) (r : Nat) (x : Int) : OwnsW (W.setCell ⟨g, r, none⟩ (.int .u8 x)) base v qs := by
  obtain ⟨bp, hbp⟩ := h.pgs p hp
  have hob : (sl p).ownBlock = some g := by show (Value.slice p.ad p.n p.cap).ownBlock = _; rw [hg]; rfl
  refine ⟨own_setCell h.row ?_ _, fun q hq => ?_⟩
  · rcases own_type_ne h.row hbp (by decide) with e | e
    · rw [e]; simp
    · rw [hob] at e; exact fun e' => e e'.symm
  · obtain ⟨bq, hbq⟩ := h.pgs q hq
    by_cases hb : (sl q).ownBlock = some g
    · have hq' : q.ad = some ⟨g, 0, none⟩ := by
        rcases hbq.2 with ⟨e, _⟩ | ⟨g', cap, cur, e, _⟩
        · rw [e] at hb; cases hb
        · have e1 : (sl q).ownBlock = some g' := by rw [e]; rfl
          rw [hb] at e1
          injection e1 with e1
          subst e1
          have e2 : Value.slice q.ad q.n q.cap = Value.slice (some ⟨g, 0, none⟩) q.n cap := e
          injection e2
      have h2 := (own_store (W := W) (k := .u8) (xs := bq) (n := q.n) (cap := q.cap) (g := g) (base := base) (e := 5) (by rw [← hq']; exact hbq) (r : Int) x).1
      rw [← hq'] at h2
      exact ⟨_, by simpa using h2⟩
    · exact ⟨bq, own_setCell hbq (fun e => hb e.symm) _⟩
set_option maxRecDepth 100000 in
set_option maxHeartbeats 6400000 in
theorem puts_walk (A : Option Addr) (c n : Nat) (cs : List Int) (w : World) (HR : ReadsInt w .u8 A n cs) (hn : n ≤ 140737488351232) (k : Int) (h1 : -9223372036854775808 ≤ k) (h2 : k ≤ 9223372036854775807) :
    Calls Tryd.prog 5 #[.slice A n c, .int .i64 k] w fun e w' => e = .returned (.bool true) ∧ Below w.heap.size w w' := by
  have R0 := Lib.hid HR
  have L0 := Lib.hid HR.1
  have HN := Lib.hid hn
  have HB := Lib.hid (And.intro h1 h2)
  obtain ⟨m, hm⟩ : ∃ m, np n = m := ⟨_, rfl⟩
  have MM := Lib.hid hm
  have m9 : (m : Int) ≤ 140737488351232 := by rw [← hm]; unfold np; omega
  have MP := Lib.hid (show pagesN (n : Int) = (m : Int) by rw [pages_np, hm])
  obtain ⟨er, he⟩ : ∃ er, pgE cs k = er := ⟨_, rfl⟩
  obtain ⟨l, hl⟩ : ∃ l, pgL cs k = l := ⟨_, rfl⟩
  obtain ⟨r, hr⟩ : ∃ r, pagesN k = r := ⟨_, rfl⟩
  have EL := Lib.hid (And.intro he (And.intro hl hr))
  clear HR hn h1 h2 hm he hl hr
  go_enter Tryd.func5, Tryd.ntmps5
  go_wp2_with (at_builtin; refine print_append_row (w0 := w) (W := w) w.heap.size rfl _ _ 24 5 .u8 1 rfl Tryd.underlying24 info8 (by omega) (.slice none 0 0) [] cs A n c rfl rfl (own_nil _ _ _ _) R0.out (Below.refl _ _) (Nat.le_refl _) (by have := HN.out; simp; omega) ?_)
  intro v1 w1 hown hb1 hg1 hat
  have hown' : w1.ownsRow w.heap.size 5 1 v1 n (nums .u8 cs) := by have := L0.out; simpa [this] using hown
  obtain ⟨A1, c1, rfl⟩ := own_slice hown'
  have O1 := Lib.hid (reads_own hown')
  have C1 := Lib.hid (own_cap hown')
  have B1 := Lib.hid hb1
  have R1 := Lib.hid (R0.out.below hb1)
  clear hown hown' hb1 hg1 hat
  go_wp2_with fail
  refine (put_at (m := m) _ O1.out C1.out HN.out MM.out).mono ?_; rintro e w2 ⟨A2, c2, qs, rfl, hq, ho, hr, hm, hb⟩
  have W2 := Lib.hid (OwnsW.of ho)
  have P2 := Lib.hid hr
  have Q2 := Lib.hid hm
  have QL := Lib.hid hq
  have B2 := Lib.hid hb
  clear hq ho hr hm hb
  go_wp2_with fail
  have hcall := page_at (c := c1) (k := k) (er := er) (l := l) _ (O1.out.below B2.out) C1.out HN.out HB.out.1 HB.out.2 EL.out.1 EL.out.2.1
  refine hcall.mono ?_
  rintro e w3 ⟨A3, m3, c3, rfl, hr, hb⟩
  have S3 := Lib.hid hr
  have P3 := Lib.hid (And.intro (P2.out.below hb) (W2.out.below hb))
  have B3 := Lib.hid (below_then B2.out B2.out.size hb)
  clear hcall hr hb
  go_wp2_with fail
  have hcall := rpage_at (c := c) (k := k) (er := er) (l := l) _ (R1.out.below B3.out) HN.out HB.out.1 HB.out.2 EL.out.1 EL.out.2.1
  refine hcall.mono ?_
  rintro e w4 ⟨A4, m4, c4, rfl, hr, hb⟩
  have S4 := Lib.hid hr
  have S3' := Lib.hid (S3.out.below hb)
  have P4 := Lib.hid (And.intro (P3.out.1.below hb) (P3.out.2.below hb))
  have B4 := Lib.hid (below_then B3.out B3.out.size hb)
  clear hcall hr hb
  go_wp2_with fail
  have hcall := rput_any A n c cs _ (R1.out.below B4.out) HN.out
  rw [MM.out] at hcall
  refine hcall.mono ?_
  rintro e w5 ⟨A5, c5, rs, rfl, hq, ho, hm, hb⟩
  obtain ⟨A5', c5', e5, hr⟩ := ho.reads
  injection e5 with e5 e5n e5c
  subst e5
  rw [hq] at hr
  have P5 := Lib.hid hr
  have Q5 := Lib.hid (Q2.out.trans hm.symm)
  have P6 := Lib.hid (And.intro (P4.out.1.below hb) (P4.out.2.below hb))
  have B5 := Lib.hid (below_then B4.out B4.out.size hb)
  have S3b := Lib.hid (S3'.out.below hb)
  have S4b := Lib.hid (S4.out.below hb)
  clear hcall hq ho hm hb hr e5n e5c
  go_wp2_with fail
  refine (same_yes A2 A5 m c2 c5 qs rs _ P6.out.1 P5.out (by omega) Q5.out).mono ?_; rintro e w6 ⟨rfl, hb⟩
  have CX := str_of (c := c3) (S3b.out.below hb)
  have CY := str_of (c := c4) (S4b.out.below hb)
  have B6 := Lib.hid (below_then B5.out B5.out.size hb)
  have W6 := Lib.hid (P6.out.2.below hb)
  clear hb
  go_wp2_with fail
  refine (pages_any _ HB.out.1 HB.out.2 EL.out.2.2).mono ?_; rintro e w7 ⟨rfl, rfl⟩
  go_wp2_with fail
  refine (rpages_any _ HB.out.1 HB.out.2 EL.out.2.2).mono ?_; rintro e w7 ⟨rfl, rfl⟩
  go_wp2_with fail
  refine (pages_any _ (by have := HN.out; omega) (by have := HN.out; omega) MP.out).mono ?_; rintro e w7 ⟨rfl, rfl⟩
  go_wp2_with fail
  clear CX CY
  have QN := Lib.hid (show ∀ p ∈ qs, p.n = 240 from fun p hp => by
    have h1 := (P2.out.pgs p hp).1
    obtain ⟨j, hj⟩ := List.getElem?_of_mem hp
    have h2 : (qs.map Pg.bs)[j]? = (pgs cs)[j]? := by rw [Q2.out]
    rw [bs_at hj] at h2
    unfold pgs at h2
    rw [List.getElem?_map] at h2
    cases hr : (List.range (np cs.length))[j]? with
    | none => rw [hr] at h2; cases h2
    | some x =>
      rw [hr] at h2
      injection h2 with h2
      rw [← h1, h2, page_length])
  go_loopw [12] (fun iv wr => ∃ (j : Nat), j ≤ m ∧ iv = .int .i64 (j : Int) ∧ OwnsW wr w1.heap.size (.slice A2 m c2) qs ∧ Below w1.heap.size w1 wr) (fun iv _ => m - (intOf iv).toNat)
  case atStart => exact ⟨0, by omega, rfl, W6.out, B6.out⟩
  case round =>
    obtain ⟨j, hj, rfl, hw, hb⟩ := hrel
    by_cases hlt : j < m
    · have dj : decide ((j : Int) < (m : Int)) = true := decide_eq_true (by omega)
      obtain ⟨Ae, ce, ee, hrr⟩ := own_reads_of (d := pg0) hw.row
      injection ee with ee1 ee2 ee3
      subst ee1
      clear ee2 ee3
      obtain ⟨a, rfl, hcc⟩ := hrr.2.2 (by rw [QL.out]; omega)
      have hc := hcc j (by rw [QL.out]; exact hlt)
      have hjq : qs[j]? = some (qs[j]'(by rw [QL.out]; exact hlt)) := List.getElem?_eq_getElem _
      rw [List.getD_eq_getElem?_getD, hjq] at hc
      obtain ⟨p, hp⟩ : ∃ p, qs[j]'(by rw [QL.out]; exact hlt) = p := ⟨_, rfl⟩
      rw [hp] at hjq hc
      have hmem := List.mem_of_getElem? hjq
      have hpn := QN.out p hmem
      obtain ⟨bs, hbs⟩ := hw.pgs p hmem
      obtain ⟨pa, pn, pc, pb⟩ := p
      dsimp only [Option.getD, sl] at hc hpn hbs
      subst hpn
      obtain ⟨g, cap, hg, -, -⟩ := hbs.form (by omega)
      injection hg with hg1 hg2 hg3
      subst hg1
      clear hg2 hg3
      obtain ⟨hx, hz⟩ := own_at hbs (0 : Int) (by omega) (by omega)
      obtain ⟨x, hxx⟩ : ∃ x, rd bs (0 : Int) = x := ⟨_, rfl⟩
      rw [hxx, Int.toNat_zero] at hx
      rw [Int.toNat_zero] at hz
      have hgb := own_base hbs g rfl
      have ST := Lib.hid (hw.store hmem (g := g) rfl 0 (bits BinOp.xor IntKind.u8 x 1))
      have BS := Lib.hid (hb.setCell (p := ⟨g, 0, none⟩) hgb (.int .u8 (bits BinOp.xor IntKind.u8 x 1)))
      have JJ := Lib.hid hlt
      clear hw hb hj hcc hjq hp hmem hbs hxx hgb hrr
      go_wp2_with fail
      go_roundw
      case rel => exact ⟨j + 1, JJ.out, by push_cast; rfl, ST.out, BS.out⟩
      case measure => have := JJ.out; simp [intOf]; omega
    · obtain rfl : j = m := by omega
      have dj : decide ((j : Int) < (j : Int)) = false := decide_eq_false (by omega)
      have CX := str_of (c := c1) (O1.out.below hb)
      have CY := str_of (c := c) (R1.out.below hb)
      have BB := Lib.hid (below_then B1.out B1.out.size hb)
      clear hw hb hj hlt
      go_wp2_with fail
      refine (wakes_any _).mono ?_; rintro e w8 ⟨rfl, hb⟩
      have B8 := Lib.hid (below_then BB.out BB.out.size hb)
      clear hb
      go_wp2_with fail
      go_ret
      exact ⟨rfl, B8.out⟩
theorem puts_row (A : Option Addr) (c : Nat) (cs : List Int) (w : World) (HR : ReadsInt w .u8 A cs.length cs) (hn : cs.length * 1 ≤ 140737488351232) (hw : ∀ x ∈ cs, (Lit.int .u8 x).wf = true) (hc : cs.length ≤ c) (k : Int) (wk : (Lit.int .i64 k).wf = true) :
    Calls Tryd.prog 5 #[.slice A cs.length c, .int .i64 k] w fun e w' => e = .returned (.bool true) ∧ Below w.heap.size w w' := puts_walk A c cs.length cs w HR (by omega) k (le_of_wf64 wk).1 (le_of_wf64 wk).2
end Go.Proofs.YtnnclfaibcedoaaDoor.Cnt
