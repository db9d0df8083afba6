/- Knots: long; spoil (a node's lists are changed), by their contracts (every input). -/
import Derived.BigQuiet
import Derived.Test.YtdekplalhfpooaaKntM
set_option linter.unusedVariables false
set_option linter.unusedSimpArgs false
namespace Go.Proofs.Ytdekplalhfpooaa.Knt
open Go Go.RowKit Go.Proofs.YtdekplalhfpooaaW.PrintWords Go.Proofs.YtdekplalhfpooaaW.PrintLast Go.Proofs.YtdekplalhfpooaaW.PrintMore Base Odr Hlp Nod Go.Proofs.Ytdekplalhfpooaa.Inv

set_option maxRecDepth 100000 in
set_option maxHeartbeats 1600000 in
theorem long_any (L : Bool) (ak av : Option Addr) (nk ck nv cv : Nat) (w : World) :
    Calls Try.prog 19 #[.agg #[.bool L, .slice ak nk ck, .slice av nv cv]] w fun e w' => e = .returned (.bool (decide (3000 < nk ∨ 3000 < nv))) ∧ Below w.heap.size w w' := by
  obtain ⟨w1, hw1, b1, f1, s1⟩ := made w #[.bool L, .slice ak nk ck, .slice av nv cv] 24
  have x1 : w1.cell? ⟨w.heap.size, 1, none⟩ = some (.slice ak nk ck) := cell_row f1 rfl
  have x2 : w1.cell? ⟨w.heap.size, 2, none⟩ = some (.slice av nv cv) := cell_row f1 rfl
  have B1 := Lib.hid b1
  clear b1 f1 s1
  go_enter Try.func19, Try.ntmps19
  by_cases h : 3000 < nk
  · have d1 : decide ((3000 : Int) < (nk : Int)) = true := decide_eq_true (by omega)
    have HR := Lib.hid (show decide (3000 < nk ∨ 3000 < nv) = true from decide_eq_true (.inl h))
    clear h
    go_wp2_with fail
    go_ret
    exact ⟨by rw [HR.out]; rfl, B1.out⟩
  · have d1 : decide ((3000 : Int) < (nk : Int)) = false := decide_eq_false (by omega)
    by_cases h2 : 3000 < nv
    · have d2 : decide ((3000 : Int) < (nv : Int)) = true := decide_eq_true (by omega)
      have HR := Lib.hid (show decide (3000 < nk ∨ 3000 < nv) = true from decide_eq_true (.inr h2))
      clear h h2
      go_wp2_with fail
      go_ret
      exact ⟨by rw [HR.out]; rfl, B1.out⟩
    · have d2 : decide ((3000 : Int) < (nv : Int)) = false := decide_eq_false (by omega)
      have HR := Lib.hid (show decide (3000 < nk ∨ 3000 < nv) = false from decide_eq_false (by omega))
      clear h h2
      go_wp2_with fail
      go_ret
      exact ⟨by rw [HR.out]; rfl, B1.out⟩
/-- The box of a call, for as long as it runs. -/
def BX : Nat := 1000
set_option maxRecDepth 100000 in
set_option maxHeartbeats 3200000 in
theorem spoil_at {w : World} {R : Rows} {D : Its} {W : World} (h : Hold w R D W) (hR : R BX = none) (i j : Nat) (hij : i ≠ j) (L : Bool) (A A' : Option Addr) (n c n' c' : Nat) (xs ys : List Int) (hi : D i = some (A, n, xs)) (hj : D j = some (A', n', ys)) :
    Calls Try.prog 27 #[.agg #[.bool L, .slice A n c, .slice A' n' c']] W fun e W' => e = .returned (.tuple #[]) ∧ Hold w R (upd (upd D i none) j none) W' := by
  obtain ⟨w1, hw1, b1, f1, s1⟩ := made W #[.bool L, .slice A n c, .slice A' n' c'] 24
  have H1 := Lib.hid (h.box BX b1 f1 (Nat.le_refl _))
  have HN := Lib.hid (And.intro ((h.its i A n xs hi).2.1) ((h.its j A' n' ys hj).2.1))
  have HI := Lib.hid (And.intro hi (And.intro hj (And.intro hij hR)))
  clear b1 f1 s1 h hi hj hij hR
  have y1 : w1.cell? ⟨W.heap.size, 1, none⟩ = some (.slice A n c) := cell_row (H1.out.row BX _ _ (upd_same _ _ _)).1 rfl
  go_enter Try.func27, Try.ntmps27
  go_wp2_with fail
  clear hw1 y1
  go_loopw [7] (fun iv wr => ∃ (k : Nat) (zs : List Int), k ≤ n ∧ iv = .int .i64 (k : Int) ∧ Hold w (upd R BX (some (W.heap.size, .cells #[.bool L, .slice A n c, .slice A' n' c'] 24))) (upd D i (some (A, n, zs))) wr) (fun iv _ => n - (intOf iv).toNat)
  case atStart =>
    refine ⟨0, xs, by omega, rfl, H1.out.sub (fun _ _ h => h) (fun k x hk => ?_)⟩
    by_cases hki : k = i
    · subst hki; rw [upd_same] at hk; rw [HI.out.1]; exact hk
    · rw [upd_ne _ _ hki] at hk; exact hk
  case round =>
    obtain ⟨k, zs, hk, rfl, hh⟩ := hrel
    have H2 := Lib.hid hh
    clear hh
    have x1 : wr.cell? ⟨W.heap.size, 1, none⟩ = some (.slice A n c) := cell_row (H2.out.row BX _ _ (upd_same _ _ _)).1 rfl
    have x2 : wr.cell? ⟨W.heap.size, 2, none⟩ = some (.slice A' n' c') := cell_row (H2.out.row BX _ _ (upd_same _ _ _)).1 rfl
    by_cases hlt : k < n
    · have dk : decide ((k : Int) < (n : Int)) = true := decide_eq_true (by omega)
      have hn9 : n ≤ 9223372036854775807 := by have := HN.out.1; simp only [maxLen] at this; omega
      obtain ⟨ad, rfl, hc⟩ := cell_at (H2.out.rd i (upd_same _ _ _)) k hlt
      obtain ⟨y, hy⟩ : ∃ y, zs.getD k 0 = y := ⟨_, rfl⟩
      rw [hy] at hc
      have hz : wr.frozen? (ad.add k) = false := (H2.out.poke i 0 (upd_same _ _ _) hlt).2.1
      have HK := Lib.hid hlt
      clear hy hk
      go_wp2_with fail
      go_roundw
      case rel =>
        refine ⟨k + 1, zs.set k (bits BinOp.xor IntKind.u64 y 1), HK.out, by push_cast; rfl, ?_⟩
        have hp := (H2.out.poke i (bits BinOp.xor IntKind.u64 y 1) (upd_same _ _ _) HK.out).1
        have e : ∀ a b, upd (upd D i a) i b = upd D i b := by
          intro a b; funext q; unfold upd; split <;> rfl
        rw [e] at hp
        exact hp
      case measure => simp [intOf]; have := HK.out; omega
    · obtain rfl : k = n := by omega
      have dk : decide ((k : Int) < (k : Int)) = false := by simp
      clear hk hlt
      go_wp2_with fail
      obtain ⟨wb, rfl⟩ : ∃ x, x = wr := ⟨wr, rfl⟩
      go_loopw [21] (fun iv wq => ∃ (q : Nat) (zs' : List Int), q ≤ n' ∧ iv = .int .i64 (q : Int) ∧ Hold w (upd R BX (some (W.heap.size, .cells #[.bool L, .slice A k c, .slice A' n' c'] 24))) (upd (upd D i (some (A, k, zs))) j (some (A', n', zs'))) wq) (fun iv _ => n' - (intOf iv).toNat)
      case atStart =>
        refine ⟨0, ys, by omega, rfl, H2.out.sub (fun _ _ h => h) (fun q x hq => ?_)⟩
        by_cases hqj : q = j
        · subst hqj; rw [upd_same] at hq; rw [upd_ne _ _ (Ne.symm HI.out.2.2.1), HI.out.2.1]; exact hq
        · rw [upd_ne _ _ hqj] at hq; exact hq
      case round =>
        obtain ⟨q, zs', hq, rfl, hh⟩ := hrel
        have H3 := Lib.hid hh
        clear hh x1 x2
        have x1 : wr.cell? ⟨W.heap.size, 1, none⟩ = some (.slice A k c) := cell_row (H3.out.row BX _ _ (upd_same _ _ _)).1 rfl
        have x2 : wr.cell? ⟨W.heap.size, 2, none⟩ = some (.slice A' n' c') := cell_row (H3.out.row BX _ _ (upd_same _ _ _)).1 rfl
        by_cases hlt : q < n'
        · have dk : decide ((q : Int) < (n' : Int)) = true := decide_eq_true (by omega)
          have hn9 : n' ≤ 9223372036854775807 := by have := HN.out.2; simp only [maxLen] at this; omega
          obtain ⟨ad, rfl, hc⟩ := cell_at (H3.out.rd j (upd_same _ _ _)) q hlt
          obtain ⟨y, hy⟩ : ∃ y, zs'.getD q 0 = y := ⟨_, rfl⟩
          rw [hy] at hc
          have hz : wr.frozen? (ad.add q) = false := (H3.out.poke j 0 (upd_same _ _ _) hlt).2.1
          have HK := Lib.hid hlt
          clear hy hq
          go_wp2_with fail
          go_roundw
          case rel =>
            refine ⟨q + 1, zs'.set q (bits BinOp.xor IntKind.u64 y 1), HK.out, by push_cast; rfl, ?_⟩
            have hp := (H3.out.poke j (bits BinOp.xor IntKind.u64 y 1) (upd_same _ _ _) HK.out).1
            have e : ∀ a b, upd (upd (upd D i (some (A, k, zs))) j a) j b = upd (upd D i (some (A, k, zs))) j b := by
              intro a b; funext q; unfold upd; split <;> rfl
            rw [e] at hp
            exact hp
          case measure => simp [intOf]; have := HK.out; omega
        · obtain rfl : q = n' := by omega
          have dk : decide ((q : Int) < (q : Int)) = false := by simp
          clear hq hlt
          go_wp2_with fail
          refine bodyPost_end (results_none rfl _ _ _) rfl ⟨rfl, ((H3.out.dropI j).dropI i).sub (fun z x hz => ?_) (fun z x hz => ?_)⟩
          · by_cases hzb : z = BX
            · subst hzb; rw [HI.out.2.2.2] at hz; cases hz
            · rw [upd_ne _ _ hzb]; exact hz
          · by_cases hzj : z = j
            · subst hzj; rw [upd_same] at hz; cases hz
            · rw [upd_ne _ _ hzj] at hz
              by_cases hzi : z = i
              · subst hzi; rw [upd_same] at hz; cases hz
              · rw [upd_ne _ _ hzi] at hz
                rw [upd_ne _ _ hzi, upd_ne _ _ hzj, upd_ne _ _ hzj, upd_ne _ _ hzi]; exact hz
end Go.Proofs.Ytdekplalhfpooaa.Knt
