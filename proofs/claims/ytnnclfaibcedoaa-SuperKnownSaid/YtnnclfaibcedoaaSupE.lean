/- super.Choose, by its contract (every input). -/
import Derived.Test.YtnnclfaibcedoaaSupD
set_option linter.unusedVariables false
set_option linter.unusedSimpArgs false
namespace Go.Proofs.Ytnnclfaibcedoaa.Sup
open Go Go.RowKit Go.Proofs.YtnnclfaibcedoaaW.PrintWords Go.Proofs.YtnnclfaibcedoaaW.PrintLast Go.Proofs.YtnnclfaibcedoaaW.PrintMore Base Odr

theorem take_at {G B D N er : Int} (b : List Int) {A : Option Addr} {n c : Nat} (w : World) (HR : ReadsInt w .u8 A n b) (hw : ∀ x ∈ b, (Lit.int .u8 x).wf = true) (hc : n ≤ c) (hG : takeS b 0 = G) (hB : takeS b 1 = B) (hD : takeS b 2 = D) (hN : takeS b 3 = N) (he : takeE b = er) :
    Calls Try.prog 14 #[.slice A n c] w fun e w' => e = .returned (.tuple #[.agg #[.int .u64 G, .int .i64 B, .int .u64 D, .int .u64 N], .int .i64 er]) ∧ Below w.heap.size w w' := by
  subst hG; subst hB; subst hD; subst hN; subst he
  exact take_any b A n c w HR hw hc
theorem takeE_len {b : List Int} (h : takeE b = 0) : b.length = 64 := by
  unfold takeE at h
  by_cases h1 : b.length < 64
  · rw [if_pos h1] at h; omega
  · rw [if_neg h1] at h
    by_cases h2 : 64 < b.length
    · rw [if_pos h2] at h; omega
    · omega
theorem takeS_range (b : List Int) (hw : ∀ x ∈ b, (Lit.int .u8 x).wf = true) (i : Nat) (hi : i < 4) : 0 ≤ takeS b i ∧ takeS b i < 18446744073709551616 := by
  unfold takeS
  by_cases h : takeE b = 0
  · rw [if_pos h]; exact n4_range b (takeE_len h) hw i hi
  · rw [if_neg h]; omega
structure Ch where
  G : Int
  B : Int
  D : Int
  N : Int
  sl : Int
  er : Int
deriving DecidableEq
def st0 : Ch := ⟨0, 0, 0, 0, 0, 23⟩
def step (x : List Int) (k : Int) (s : Ch) : Ch := if takeE x = 0 ∧ takeS x 0 % 2 = k ∧ s.G < takeS x 0 then ⟨takeS x 0, takeS x 1, takeS x 2, takeS x 3, k, 0⟩ else s
def stt (a b : List Int) : Nat → Ch
  | 0 => st0
  | 1 => step a 0 st0
  | _ => step b 1 (step a 0 st0)
theorem ret_cell9 {R : Ending → World → Prop} {a : Act} {w : World} (g : Nat) (cs : Array Value) (fr : Nat × Nat) (hp : a.tmps.getD 4 undef = .pointer (some ⟨g, 0, none⟩)) (hg : w.heap[g]? = some (.cells cs 25 fr)) (hcs : cs.size = 4)
    (hd : a.defers = []) (hR : R (.returned (.tuple #[.agg cs, a.tmps.getD 5 undef, a.tmps.getD 6 undef])) w) : bodyPost Try.prog Try.f9 R .ret a w := by
  have h1 := run_loadVar_row (P := Try.prog) w g 25 25 cs fr _ hg Try.underlying25 rfl (by rw [hcs]; kernel_rfl)
  have hf : Try.f9.results = #[.cell 4 25, .tmp 5, .tmp 6] := rfl
  have hp' : a.tmps[4]?.getD undef = .pointer (some ⟨g, 0, none⟩) := by simpa using hp
  refine bodyPost_ret (v := .tuple #[.agg cs, a.tmps.getD 5 undef, a.tmps.getD 6 undef]) ?_ hd hR
  simp [results, hf, hp', asAddr, h1]
theorem index2 (v u : Value) (A A' : Option Addr) (n n' c c' : Nat) (hv : v = .slice A n c) (hu : u = .slice A' n' c') : ∀ W : World, (Instr.index 47 (.agg #[v, u]) (.int .i64 0)).run Try.prog W = .ok v W ∧ (Instr.index 47 (.agg #[v, u]) (.int .i64 1)).run Try.prog W = .ok u W := by
  intro W; subst hv; subst hu; constructor <;> kernel_rfl
theorem cell_row {w : World} {g i : Nat} {cs : Array Value} {t : TypeId} {fr : Nat × Nat} {v : Value} (h : w.heap[g]? = some (.cells cs t fr)) (hv : cs[i]? = some v) : w.cell? ⟨g, i, none⟩ = some v := by
  rw [cell_of_row w g i cs t fr h]; exact hv
set_option maxRecDepth 100000 in
set_option maxHeartbeats 3200000 in
theorem choose_any (a b : List Int) (A1 A2 : Option Addr) (n1 c1 n2 c2 : Nat) (w : World) (HR1 : ReadsInt w .u8 A1 n1 a) (hw1 : ∀ x ∈ a, (Lit.int .u8 x).wf = true) (hc1 : n1 ≤ c1) (HR2 : ReadsInt w .u8 A2 n2 b) (hw2 : ∀ x ∈ b, (Lit.int .u8 x).wf = true) (hc2 : n2 ≤ c2) :
    Calls Try.prog 9 #[.slice A1 n1 c1, .slice A2 n2 c2] w fun e w' => e = .returned (.tuple #[.agg #[.int .u64 (stt a b 2).G, .int .i64 (stt a b 2).B, .int .u64 (stt a b 2).D, .int .u64 (stt a b 2).N], .int .i64 (stt a b 2).sl, .int .i64 (stt a b 2).er]) ∧ Below w.heap.size w w' := by
  have H1 := Lib.hid HR1
  have H2 := Lib.hid HR2
  have W1 := Lib.hid hw1
  have W2 := Lib.hid hw2
  have C1 := Lib.hid hc1
  have C2 := Lib.hid hc2
  have ix0 := fun W => (index2 _ _ A1 A2 n1 n2 c1 c2 rfl rfl W).1
  have ix1 := fun W => (index2 _ _ A1 A2 n1 n2 c1 c2 rfl rfl W).2
  clear HR1 HR2 hw1 hw2 hc1 hc2
  go_enter Try.func9, Try.ntmps9
  go_wp2_with fail
  go_loopw [8, 9, 17] (fun sl er i wr => ∃ (k : Nat) (s : Ch), k ≤ 2 ∧ i = .int .i64 k ∧ s = stt a b k ∧ sl = .int .i64 s.sl ∧ er = .int .i64 s.er ∧ wr.heap[w.heap.size]? = some (.cells #[.int .u64 0, .int .i64 0, .int .u64 0, .int .u64 0] 25 (0, 0)) ∧
    wr.heap[w.heap.size + 1]? = some (.cells #[.int .u64 s.G, .int .i64 s.B, .int .u64 s.D, .int .u64 s.N] 25 (0, 0)) ∧ Below w.heap.size w wr) (fun _ _ i _ => 2 - (intOf i).toNat)
  case atStart => exact ⟨0, st0, by omega, rfl, rfl, rfl, rfl, by rw [Below.heap_alloc _ _ _ (by simp)]; exact heap_alloc_new _ _, heap_alloc2_new _ _ _, ((Below.refl _ _).alloc (Nat.le_refl _) _).alloc (by simp) _⟩
  case round =>
    obtain ⟨k, s, hk, rfl, hs, rfl, rfl, h4, h7, hb⟩ := hrel
    have H4 := Lib.hid h4
    have H7 := Lib.hid h7
    have HB := Lib.hid hb
    have HSS := Lib.hid hs
    clear h4 h7 hb hs
    by_cases hlt : k < 2
    · obtain rfl | rfl : k = 0 ∨ k = 1 := by omega
      · obtain ⟨G, hG⟩ : ∃ G, takeS a 0 = G := ⟨_, rfl⟩
        obtain ⟨B, hB⟩ : ∃ B, takeS a 1 = B := ⟨_, rfl⟩
        obtain ⟨D, hD⟩ : ∃ D, takeS a 2 = D := ⟨_, rfl⟩
        obtain ⟨N, hN⟩ : ∃ N, takeS a 3 = N := ⟨_, rfl⟩
        obtain ⟨er, her⟩ : ∃ er, takeE a = er := ⟨_, rfl⟩
        have hr := takeS_range a W1.out 0 (by omega)
        rw [hG] at hr
        obtain ⟨g0, g1⟩ := hr
        have hst : stt a b 1 = if er = 0 ∧ G % 2 = 0 ∧ s.G < G then ⟨G, B, D, N, 0, 0⟩ else s := by
          rw [show stt a b 1 = step a 0 (stt a b 0) from rfl, ← HSS.out]; unfold step; rw [hG, hB, hD, hN, her]
        have HST := Lib.hid hst
        have E1 := Lib.hid hG
        have E2 := Lib.hid hB
        have E3 := Lib.hid hD
        have E4 := Lib.hid hN
        have E5 := Lib.hid her
        obtain ⟨SG, hSG⟩ : ∃ SG, s.G = SG := ⟨_, rfl⟩
        have HSG := Lib.hid hSG
        have kcell : ∀ w3 : World, Below wr.heap.size wr w3 → w3.cell? ⟨w.heap.size + 1, 0, none⟩ = some (.int .u64 SG) := fun w3 hb => by
          rw [← hSG]; exact cell_row ((hb.block _ (Array.getElem?_eq_some_iff.1 H7.out).1).trans H7.out) rfl
        have KC := Lib.hid kcell
        clear hG hB hD hN her hst hSG kcell
        by_cases q1 : er = 0
        · by_cases q2 : G % 2 = 0
          · by_cases q3 : SG < G
            · have RN := Lib.hid (show stt a b 1 = ⟨G, B, D, N, 0, 0⟩ by rw [HST.out, if_pos ⟨q1, q2, by rw [HSG.out]; exact q3⟩])
              have t1 : (er == 0) = true := by simpa using q1
              have t2 : (G % 2 == 0) = true := by simpa using q2
              have t3 : decide (SG < G) = true := decide_eq_true q3
              clear q1 q2 q3
              go_wp2_with fail
              refine (take_at a _ (ReadsInt.below H1.out HB.out) W1.out C1.out E1.out E2.out E3.out E4.out E5.out).mono ?_
              rintro e w3 ⟨rfl, hb3⟩
              have kc := alloc_cell (KC.out w3 hb3) (.cells #[.int .u64 G, .int .i64 B, .int .u64 D, .int .u64 N] 25)
              have k4 := (hb3.block _ (Array.getElem?_eq_some_iff.1 H4.out).1).trans H4.out
              have k7 := (hb3.block _ (Array.getElem?_eq_some_iff.1 H7.out).1).trans H7.out
              have K4 := Lib.hid (alloc_row k4 (.cells #[.int .u64 G, .int .i64 B, .int .u64 D, .int .u64 N] 25))
              have K7 := Lib.hid (alloc_row k7 (.cells #[.int .u64 G, .int .i64 B, .int .u64 D, .int .u64 N] 25))
              have B3 := Lib.hid ((below_then HB.out HB.out.size hb3).alloc (below_then HB.out HB.out.size hb3).size (.cells #[.int .u64 G, .int .i64 B, .int .u64 D, .int .u64 N] 25))
              clear hb3 k4 k7
              go_wp2_with ((with_reducible refine wpList_store_row rfl 25 (.tmp 7) (.tmp 43) rfl (w.heap.size + 1) #[.int .u64 G, .int .i64 B, .int .u64 D, .int .u64 N] ?_ ?_ 25 _ K7.out (size4 _ _ _ _) ?_ (one4 _ _ _ _) ?_); rfl; rfl; rfl)
              go_roundw
              case rel => exact ⟨1, _, by omega, by go_num, RN.out.symm, rfl, rfl, by rw [setRow_other _ _ _ _ (by omega)]; exact K4.out, setRow_heap _ _ _ _ _ _ K7.out, below_setRow B3.out (by omega) _⟩
              case measure => simp [intOf]
            · have RN := Lib.hid (show stt a b 1 = s by rw [HST.out, if_neg (fun h => q3 (by rw [← HSG.out]; exact h.2.2))])
              have t1 : (er == 0) = true := by simpa using q1
              have t2 : (G % 2 == 0) = true := by simpa using q2
              have t3 : decide (SG < G) = false := decide_eq_false q3
              clear q1 q2 q3
              go_wp2_with fail
              refine (take_at a _ (ReadsInt.below H1.out HB.out) W1.out C1.out E1.out E2.out E3.out E4.out E5.out).mono ?_
              rintro e w3 ⟨rfl, hb3⟩
              have kc := alloc_cell (KC.out w3 hb3) (.cells #[.int .u64 G, .int .i64 B, .int .u64 D, .int .u64 N] 25)
              have k4 := (hb3.block _ (Array.getElem?_eq_some_iff.1 H4.out).1).trans H4.out
              have k7 := (hb3.block _ (Array.getElem?_eq_some_iff.1 H7.out).1).trans H7.out
              have K4 := Lib.hid (alloc_row k4 (.cells #[.int .u64 G, .int .i64 B, .int .u64 D, .int .u64 N] 25))
              have K7 := Lib.hid (alloc_row k7 (.cells #[.int .u64 G, .int .i64 B, .int .u64 D, .int .u64 N] 25))
              have B3 := Lib.hid ((below_then HB.out HB.out.size hb3).alloc (below_then HB.out HB.out.size hb3).size (.cells #[.int .u64 G, .int .i64 B, .int .u64 D, .int .u64 N] 25))
              clear hb3 k4 k7
              go_wp2_with fail
              go_roundw
              case rel => exact ⟨1, s, by omega, by go_num, RN.out.symm, rfl, rfl, K4.out, K7.out, B3.out⟩
              case measure => simp [intOf]
          · have RN := Lib.hid (show stt a b 1 = s by rw [HST.out, if_neg (fun h => q2 h.2.1)])
            have t1 : (er == 0) = true := by simpa using q1
            have t2 : (G % 2 == 0) = false := by simpa using q2
            clear q1 q2
            go_wp2_with fail
            refine (take_at a _ (ReadsInt.below H1.out HB.out) W1.out C1.out E1.out E2.out E3.out E4.out E5.out).mono ?_
            rintro e w3 ⟨rfl, hb3⟩
            have kc := alloc_cell (KC.out w3 hb3) (.cells #[.int .u64 G, .int .i64 B, .int .u64 D, .int .u64 N] 25)
            have k4 := (hb3.block _ (Array.getElem?_eq_some_iff.1 H4.out).1).trans H4.out
            have k7 := (hb3.block _ (Array.getElem?_eq_some_iff.1 H7.out).1).trans H7.out
            have K4 := Lib.hid (alloc_row k4 (.cells #[.int .u64 G, .int .i64 B, .int .u64 D, .int .u64 N] 25))
            have K7 := Lib.hid (alloc_row k7 (.cells #[.int .u64 G, .int .i64 B, .int .u64 D, .int .u64 N] 25))
            have B3 := Lib.hid ((below_then HB.out HB.out.size hb3).alloc (below_then HB.out HB.out.size hb3).size (.cells #[.int .u64 G, .int .i64 B, .int .u64 D, .int .u64 N] 25))
            clear hb3 k4 k7
            go_wp2_with fail
            go_roundw
            case rel => exact ⟨1, s, by omega, by go_num, RN.out.symm, rfl, rfl, K4.out, K7.out, B3.out⟩
            case measure => simp [intOf]
        · have RN := Lib.hid (show stt a b 1 = s by rw [HST.out, if_neg (fun h => q1 h.1)])
          have t1 : (er == 0) = false := by simpa using q1
          clear q1
          go_wp2_with fail
          refine (take_at a _ (ReadsInt.below H1.out HB.out) W1.out C1.out E1.out E2.out E3.out E4.out E5.out).mono ?_
          rintro e w3 ⟨rfl, hb3⟩
          have kc := alloc_cell (KC.out w3 hb3) (.cells #[.int .u64 G, .int .i64 B, .int .u64 D, .int .u64 N] 25)
          have k4 := (hb3.block _ (Array.getElem?_eq_some_iff.1 H4.out).1).trans H4.out
          have k7 := (hb3.block _ (Array.getElem?_eq_some_iff.1 H7.out).1).trans H7.out
          have K4 := Lib.hid (alloc_row k4 (.cells #[.int .u64 G, .int .i64 B, .int .u64 D, .int .u64 N] 25))
          have K7 := Lib.hid (alloc_row k7 (.cells #[.int .u64 G, .int .i64 B, .int .u64 D, .int .u64 N] 25))
          have B3 := Lib.hid ((below_then HB.out HB.out.size hb3).alloc (below_then HB.out HB.out.size hb3).size (.cells #[.int .u64 G, .int .i64 B, .int .u64 D, .int .u64 N] 25))
          clear hb3 k4 k7
          go_wp2_with fail
          go_roundw
          case rel => exact ⟨1, s, by omega, by go_num, RN.out.symm, rfl, rfl, K4.out, K7.out, B3.out⟩
          case measure => simp [intOf]
      · obtain ⟨G, hG⟩ : ∃ G, takeS b 0 = G := ⟨_, rfl⟩
        obtain ⟨B, hB⟩ : ∃ B, takeS b 1 = B := ⟨_, rfl⟩
        obtain ⟨D, hD⟩ : ∃ D, takeS b 2 = D := ⟨_, rfl⟩
        obtain ⟨N, hN⟩ : ∃ N, takeS b 3 = N := ⟨_, rfl⟩
        obtain ⟨er, her⟩ : ∃ er, takeE b = er := ⟨_, rfl⟩
        have hr := takeS_range b W2.out 0 (by omega)
        rw [hG] at hr
        obtain ⟨g0, g1⟩ := hr
        have hst : stt a b 2 = if er = 0 ∧ G % 2 = 1 ∧ s.G < G then ⟨G, B, D, N, 1, 0⟩ else s := by
          rw [show stt a b 2 = step b 1 (stt a b 1) from rfl, ← HSS.out]; unfold step; rw [hG, hB, hD, hN, her]
        have HST := Lib.hid hst
        have E1 := Lib.hid hG
        have E2 := Lib.hid hB
        have E3 := Lib.hid hD
        have E4 := Lib.hid hN
        have E5 := Lib.hid her
        obtain ⟨SG, hSG⟩ : ∃ SG, s.G = SG := ⟨_, rfl⟩
        have HSG := Lib.hid hSG
        have kcell : ∀ w3 : World, Below wr.heap.size wr w3 → w3.cell? ⟨w.heap.size + 1, 0, none⟩ = some (.int .u64 SG) := fun w3 hb => by
          rw [← hSG]; exact cell_row ((hb.block _ (Array.getElem?_eq_some_iff.1 H7.out).1).trans H7.out) rfl
        have KC := Lib.hid kcell
        clear hG hB hD hN her hst hSG kcell
        by_cases q1 : er = 0
        · by_cases q2 : G % 2 = 1
          · by_cases q3 : SG < G
            · have RN := Lib.hid (show stt a b 2 = ⟨G, B, D, N, 1, 0⟩ by rw [HST.out, if_pos ⟨q1, q2, by rw [HSG.out]; exact q3⟩])
              have t1 : (er == 0) = true := by simpa using q1
              have t2 : (G % 2 == 1) = true := by simpa using q2
              have t3 : decide (SG < G) = true := decide_eq_true q3
              clear q1 q2 q3
              go_wp2_with fail
              refine (take_at b _ (ReadsInt.below H2.out HB.out) W2.out C2.out E1.out E2.out E3.out E4.out E5.out).mono ?_
              rintro e w3 ⟨rfl, hb3⟩
              have kc := alloc_cell (KC.out w3 hb3) (.cells #[.int .u64 G, .int .i64 B, .int .u64 D, .int .u64 N] 25)
              have k4 := (hb3.block _ (Array.getElem?_eq_some_iff.1 H4.out).1).trans H4.out
              have k7 := (hb3.block _ (Array.getElem?_eq_some_iff.1 H7.out).1).trans H7.out
              have K4 := Lib.hid (alloc_row k4 (.cells #[.int .u64 G, .int .i64 B, .int .u64 D, .int .u64 N] 25))
              have K7 := Lib.hid (alloc_row k7 (.cells #[.int .u64 G, .int .i64 B, .int .u64 D, .int .u64 N] 25))
              have B3 := Lib.hid ((below_then HB.out HB.out.size hb3).alloc (below_then HB.out HB.out.size hb3).size (.cells #[.int .u64 G, .int .i64 B, .int .u64 D, .int .u64 N] 25))
              clear hb3 k4 k7
              go_wp2_with ((with_reducible refine wpList_store_row rfl 25 (.tmp 7) (.tmp 43) rfl (w.heap.size + 1) #[.int .u64 G, .int .i64 B, .int .u64 D, .int .u64 N] ?_ ?_ 25 _ K7.out (size4 _ _ _ _) ?_ (one4 _ _ _ _) ?_); rfl; rfl; rfl)
              go_roundw
              case rel => exact ⟨2, _, by omega, by go_num, RN.out.symm, rfl, rfl, by rw [setRow_other _ _ _ _ (by omega)]; exact K4.out, setRow_heap _ _ _ _ _ _ K7.out, below_setRow B3.out (by omega) _⟩
              case measure => simp [intOf]
            · have RN := Lib.hid (show stt a b 2 = s by rw [HST.out, if_neg (fun h => q3 (by rw [← HSG.out]; exact h.2.2))])
              have t1 : (er == 0) = true := by simpa using q1
              have t2 : (G % 2 == 1) = true := by simpa using q2
              have t3 : decide (SG < G) = false := decide_eq_false q3
              clear q1 q2 q3
              go_wp2_with fail
              refine (take_at b _ (ReadsInt.below H2.out HB.out) W2.out C2.out E1.out E2.out E3.out E4.out E5.out).mono ?_
              rintro e w3 ⟨rfl, hb3⟩
              have kc := alloc_cell (KC.out w3 hb3) (.cells #[.int .u64 G, .int .i64 B, .int .u64 D, .int .u64 N] 25)
              have k4 := (hb3.block _ (Array.getElem?_eq_some_iff.1 H4.out).1).trans H4.out
              have k7 := (hb3.block _ (Array.getElem?_eq_some_iff.1 H7.out).1).trans H7.out
              have K4 := Lib.hid (alloc_row k4 (.cells #[.int .u64 G, .int .i64 B, .int .u64 D, .int .u64 N] 25))
              have K7 := Lib.hid (alloc_row k7 (.cells #[.int .u64 G, .int .i64 B, .int .u64 D, .int .u64 N] 25))
              have B3 := Lib.hid ((below_then HB.out HB.out.size hb3).alloc (below_then HB.out HB.out.size hb3).size (.cells #[.int .u64 G, .int .i64 B, .int .u64 D, .int .u64 N] 25))
              clear hb3 k4 k7
              go_wp2_with fail
              go_roundw
              case rel => exact ⟨2, s, by omega, by go_num, RN.out.symm, rfl, rfl, K4.out, K7.out, B3.out⟩
              case measure => simp [intOf]
          · have RN := Lib.hid (show stt a b 2 = s by rw [HST.out, if_neg (fun h => q2 h.2.1)])
            have t1 : (er == 0) = true := by simpa using q1
            have t2 : (G % 2 == 1) = false := by simpa using q2
            clear q1 q2
            go_wp2_with fail
            refine (take_at b _ (ReadsInt.below H2.out HB.out) W2.out C2.out E1.out E2.out E3.out E4.out E5.out).mono ?_
            rintro e w3 ⟨rfl, hb3⟩
            have kc := alloc_cell (KC.out w3 hb3) (.cells #[.int .u64 G, .int .i64 B, .int .u64 D, .int .u64 N] 25)
            have k4 := (hb3.block _ (Array.getElem?_eq_some_iff.1 H4.out).1).trans H4.out
            have k7 := (hb3.block _ (Array.getElem?_eq_some_iff.1 H7.out).1).trans H7.out
            have K4 := Lib.hid (alloc_row k4 (.cells #[.int .u64 G, .int .i64 B, .int .u64 D, .int .u64 N] 25))
            have K7 := Lib.hid (alloc_row k7 (.cells #[.int .u64 G, .int .i64 B, .int .u64 D, .int .u64 N] 25))
            have B3 := Lib.hid ((below_then HB.out HB.out.size hb3).alloc (below_then HB.out HB.out.size hb3).size (.cells #[.int .u64 G, .int .i64 B, .int .u64 D, .int .u64 N] 25))
            clear hb3 k4 k7
            go_wp2_with fail
            go_roundw
            case rel => exact ⟨2, s, by omega, by go_num, RN.out.symm, rfl, rfl, K4.out, K7.out, B3.out⟩
            case measure => simp [intOf]
        · have RN := Lib.hid (show stt a b 2 = s by rw [HST.out, if_neg (fun h => q1 h.1)])
          have t1 : (er == 0) = false := by simpa using q1
          clear q1
          go_wp2_with fail
          refine (take_at b _ (ReadsInt.below H2.out HB.out) W2.out C2.out E1.out E2.out E3.out E4.out E5.out).mono ?_
          rintro e w3 ⟨rfl, hb3⟩
          have kc := alloc_cell (KC.out w3 hb3) (.cells #[.int .u64 G, .int .i64 B, .int .u64 D, .int .u64 N] 25)
          have k4 := (hb3.block _ (Array.getElem?_eq_some_iff.1 H4.out).1).trans H4.out
          have k7 := (hb3.block _ (Array.getElem?_eq_some_iff.1 H7.out).1).trans H7.out
          have K4 := Lib.hid (alloc_row k4 (.cells #[.int .u64 G, .int .i64 B, .int .u64 D, .int .u64 N] 25))
          have K7 := Lib.hid (alloc_row k7 (.cells #[.int .u64 G, .int .i64 B, .int .u64 D, .int .u64 N] 25))
          have B3 := Lib.hid ((below_then HB.out HB.out.size hb3).alloc (below_then HB.out HB.out.size hb3).size (.cells #[.int .u64 G, .int .i64 B, .int .u64 D, .int .u64 N] 25))
          clear hb3 k4 k7
          go_wp2_with fail
          go_roundw
          case rel => exact ⟨2, s, by omega, by go_num, RN.out.symm, rfl, rfl, K4.out, K7.out, B3.out⟩
          case measure => simp [intOf]
    · obtain rfl : k = 2 := by omega
      have hb' := HB.out
      go_wp2_with (first | ((with_reducible refine wpList_load_row rfl 25 (.tmp 7) rfl (w.heap.size + 1) ?_ 25 _ _ _ H7.out Try.underlying25 ?_ (size4 _ _ _ _) ?_); rfl; rfl) | ((with_reducible refine wpList_store_row rfl 25 (.tmp 4) (.tmp 46) rfl w.heap.size #[.int .u64 s.G, .int .i64 s.B, .int .u64 s.D, .int .u64 s.N] ?_ ?_ 25 _ H4.out (size4 _ _ _ _) ?_ (one4 _ _ _ _) ?_); rfl; rfl; rfl))
      refine ret_cell9 w.heap.size #[.int .u64 s.G, .int .i64 s.B, .int .u64 s.D, .int .u64 s.N] (0, 0) rfl (setRow_heap _ _ _ _ _ _ H4.out) rfl rfl ⟨?_, below_setRow HB.out (Nat.le_refl _) _⟩
      rw [← HSS.out]
      rfl
end Go.Proofs.Ytnnclfaibcedoaa.Sup
