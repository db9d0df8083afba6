/- The document's Choose, by its contract (every input). -/
import Derived.Test.YtnnclfaibcedoaaSupJ
set_option linter.unusedVariables false
set_option linter.unusedSimpArgs false
namespace Go.Proofs.Ytnnclfaibcedoaa.Sup
open Go Go.RowKit Go.Proofs.YtnnclfaibcedoaaW.PrintWords Go.Proofs.YtnnclfaibcedoaaW.PrintLast Go.Proofs.YtnnclfaibcedoaaW.PrintMore Base Odr

theorem rtake_at {G B D N er : Int} (b : List Int) {A : Option Addr} {n c : Nat} (w : World) (HR : ReadsInt w .u8 A n b) (hw : ∀ x ∈ b, (Lit.int .u8 x).wf = true) (hc : n ≤ c) (hG : takeS b 0 = G) (hB : takeS b 1 = B) (hD : takeS b 2 = D) (hN : takeS b 3 = N) (he : takeE b = er) :
    Calls Try.prog 19 #[.slice A n c] w fun e w' => e = .returned (.tuple #[.agg #[.int .u64 G, .int .i64 B, .int .u64 D, .int .u64 N], .int .i64 er]) ∧ Below w.heap.size w w' := by
  subst hG; subst hB; subst hD; subst hN; subst he
  exact rtake_any b A n c w HR hw hc
theorem take_pos (b : List Int) (h : takeE b = 0) : 1 ≤ takeS b 0 := by
  have hs : takeS b 0 = n4 b 0 := if_pos h
  rw [hs]
  unfold takeE at h
  by_cases h1 : b.length < 64
  · rw [if_pos h1] at h; omega
  rw [if_neg h1] at h
  by_cases h2 : 64 < b.length
  · rw [if_pos h2] at h; omega
  rw [if_neg h2] at h
  by_cases h3 : 1024 < n4 b 1
  · rw [if_pos h3] at h; omega
  rw [if_neg h3] at h
  by_cases h4 : may (n4 b 0) (n4 b 1) (n4 b 2) (n4 b 3) = true ∧ formL (n4 b 0) (n4 b 1) (n4 b 2) (n4 b 3) = b
  · exact (may_all h4.1).1.1
  · rw [if_neg h4] at h; omega
theorem ret_cell10 {R : Ending → World → Prop} {a : Act} {w : World} (g : Nat) (cs : Array Value) (fr : Nat × Nat) (hp : a.tmps.getD 4 undef = .pointer (some ⟨g, 0, none⟩)) (hg : w.heap[g]? = some (.cells cs 25 fr)) (hcs : cs.size = 4)
    (hd : a.defers = []) (hR : R (.returned (.tuple #[.agg cs, a.tmps.getD 5 undef, a.tmps.getD 6 undef])) w) : bodyPost Try.prog Try.f10 R .ret a w := by
  have h1 := run_loadVar_row (P := Try.prog) w g 25 25 cs fr _ hg Try.underlying25 rfl (by rw [hcs]; kernel_rfl)
  have hf : Try.f10.results = #[.cell 4 25, .tmp 5, .tmp 6] := rfl
  have hp' : a.tmps[4]?.getD undef = .pointer (some ⟨g, 0, none⟩) := by simpa using hp
  refine bodyPost_ret (v := .tuple #[.agg cs, a.tmps.getD 5 undef, a.tmps.getD 6 undef]) ?_ hd hR
  simp [results, hf, hp', asAddr, h1]
set_option maxRecDepth 100000 in
set_option maxHeartbeats 3200000 in
theorem rchoose_any (a b : List Int) (A1 A2 : Option Addr) (n1 c1 n2 c2 : Nat) (w : World) (HR1 : ReadsInt w .u8 A1 n1 a) (hw1 : ∀ x ∈ a, (Lit.int .u8 x).wf = true) (hc1 : n1 ≤ c1) (HR2 : ReadsInt w .u8 A2 n2 b) (hw2 : ∀ x ∈ b, (Lit.int .u8 x).wf = true) (hc2 : n2 ≤ c2) :
    Calls Try.prog 10 #[.slice A1 n1 c1, .slice A2 n2 c2] w fun e w' => e = .returned (.tuple #[.agg #[.int .u64 (stt a b 2).G, .int .i64 (stt a b 2).B, .int .u64 (stt a b 2).D, .int .u64 (stt a b 2).N], .int .i64 (stt a b 2).sl, .int .i64 (stt a b 2).er]) ∧ Below w.heap.size w w' := by
  have H1 := Lib.hid (ReadsInt.below HR1 ((Below.refl _ _).alloc (Nat.le_refl _) (.cells #[.int .u64 0, .int .i64 0, .int .u64 0, .int .u64 0] 25)))
  have H2 := Lib.hid HR2
  have W1 := Lib.hid hw1
  have W2 := Lib.hid hw2
  have C1 := Lib.hid hc1
  have C2 := Lib.hid hc2
  obtain ⟨Ga, hGa⟩ : ∃ Ga, takeS a 0 = Ga := ⟨_, rfl⟩
  obtain ⟨Ba, hBa⟩ : ∃ Ba, takeS a 1 = Ba := ⟨_, rfl⟩
  obtain ⟨Da, hDa⟩ : ∃ Da, takeS a 2 = Da := ⟨_, rfl⟩
  obtain ⟨Na, hNa⟩ : ∃ Na, takeS a 3 = Na := ⟨_, rfl⟩
  obtain ⟨ea, hea⟩ : ∃ ea, takeE a = ea := ⟨_, rfl⟩
  obtain ⟨Gb, hGb⟩ : ∃ Gb, takeS b 0 = Gb := ⟨_, rfl⟩
  obtain ⟨Bb, hBb⟩ : ∃ Bb, takeS b 1 = Bb := ⟨_, rfl⟩
  obtain ⟨Db, hDb⟩ : ∃ Db, takeS b 2 = Db := ⟨_, rfl⟩
  obtain ⟨Nb, hNb⟩ : ∃ Nb, takeS b 3 = Nb := ⟨_, rfl⟩
  obtain ⟨eb, heb⟩ : ∃ eb, takeE b = eb := ⟨_, rfl⟩
  obtain ⟨ga0, ga1⟩ := takeS_range a hw1 0 (by omega)
  obtain ⟨gb0, gb1⟩ := takeS_range b hw2 0 (by omega)
  have pa := take_pos a
  have pb := take_pos b
  rw [hGa] at ga0 ga1
  rw [hGb] at gb0 gb1
  rw [hGa, hea] at pa
  rw [hGb, heb] at pb
  have hst : stt a b 2 = (fun s : Ch => if eb = 0 ∧ Gb % 2 = 1 ∧ s.G < Gb then (⟨Gb, Bb, Db, Nb, 1, 0⟩ : Ch) else s) (if ea = 0 ∧ Ga % 2 = 0 ∧ 0 < Ga then ⟨Ga, Ba, Da, Na, 0, 0⟩ else st0) := by
    show step b 1 (step a 0 st0) = _
    unfold step
    rw [hGa, hBa, hDa, hNa, hea, hGb, hBb, hDb, hNb, heb]
    rfl
  have EA := Lib.hid (And.intro hGa (And.intro hBa (And.intro hDa (And.intro hNa hea))))
  have EB := Lib.hid (And.intro hGb (And.intro hBb (And.intro hDb (And.intro hNb heb))))
  have HZ := Lib.hid (heap_alloc_new w (.cells #[.int .u64 0, .int .i64 0, .int .u64 0, .int .u64 0] 25))
  have HBZ := Lib.hid ((Below.refl w.heap.size w).alloc (Nat.le_refl _) (.cells #[.int .u64 0, .int .i64 0, .int .u64 0, .int .u64 0] 25))
  clear HR1 HR2 hw1 hw2 hc1 hc2 hGa hBa hDa hNa hea hGb hBb hDb hNb heb
  by_cases q1 : ea = 0
  · by_cases q2 : Ga % 2 = 0
    · by_cases q3 : eb = 0
      · by_cases q4 : Gb % 2 = 1
        · have t1 : (ea == 0) = true := by simpa using q1
          have t2 : (Ga % 2 == 0) = true := by simpa using q2
          have t3 : (eb == 0) = true := by simpa using q3
          have t4 : (Gb % 2 == 1) = true := by simpa using q4
          by_cases q5 : Gb < Ga
          · have t5 : decide (Gb < Ga) = true := decide_eq_true q5
            have RN : stt a b 2 = ⟨Ga, Ba, Da, Na, 0, 0⟩ := by
              rw [hst]
              rw [if_pos (c := ea = 0 ∧ Ga % 2 = 0 ∧ 0 < Ga) ⟨q1, q2, by have := pa q1; omega⟩]
              exact if_neg (fun h => by have h3 : Ga < Gb := h.2.2; omega)
            have HRN := Lib.hid RN
            clear RN hst pa pb
            clear q1 q2 q3 q4 q5
            go_enter Try.func10, Try.ntmps10
            go_wp2_with fail
            refine (rtake_at a _ H1.out W1.out C1.out EA.out.1 EA.out.2.1 EA.out.2.2.1 EA.out.2.2.2.1 EA.out.2.2.2.2).mono ?_; rintro e w2 ⟨rfl, hb2⟩
            have Z2 := Lib.hid (alloc_row (keep_row HZ.out hb2) (.cells #[.int .u64 Ga, .int .i64 Ba, .int .u64 Da, .int .u64 Na] 25))
            have X2 := Lib.hid (heap_alloc_new w2 (.cells #[.int .u64 Ga, .int .i64 Ba, .int .u64 Da, .int .u64 Na] 25))
            have B2 := Lib.hid ((below_then HBZ.out HBZ.out.size hb2).alloc (below_then HBZ.out HBZ.out.size hb2).size (.cells #[.int .u64 Ga, .int .i64 Ba, .int .u64 Da, .int .u64 Na] 25))
            clear hb2
            go_wp2_with fail
            refine (rtake_at b _ (ReadsInt.below H2.out B2.out) W2.out C2.out EB.out.1 EB.out.2.1 EB.out.2.2.1 EB.out.2.2.2.1 EB.out.2.2.2.2).mono ?_; rintro e w3 ⟨rfl, hb3⟩
            have KZ := Lib.hid (alloc_row (keep_row Z2.out hb3) (.cells #[.int .u64 Gb, .int .i64 Bb, .int .u64 Db, .int .u64 Nb] 25))
            have KA := Lib.hid (alloc_row (keep_row X2.out hb3) (.cells #[.int .u64 Gb, .int .i64 Bb, .int .u64 Db, .int .u64 Nb] 25))
            have KB := Lib.hid (heap_alloc_new w3 (.cells #[.int .u64 Gb, .int .i64 Bb, .int .u64 Db, .int .u64 Nb] 25))
            have B3 := Lib.hid ((below_then B2.out B2.out.size hb3).alloc (below_then B2.out B2.out.size hb3).size (.cells #[.int .u64 Gb, .int .i64 Bb, .int .u64 Db, .int .u64 Nb] 25))
            have ca := (cells4 KA.out).1
            have cb := (cells4 KB.out).1
            clear hb3
            go_wp2_with (first | (((with_reducible refine wpList_load_row rfl 25 (.tmp 7) rfl w2.heap.size ?_ 25 _ _ _ KA.out Try.underlying25 ?_ (size4 _ _ _ _) ?_); rfl; rfl)) | ((with_reducible refine wpList_store_row rfl 25 (.tmp 4) (.tmp 51) rfl w.heap.size #[.int .u64 Ga, .int .i64 Ba, .int .u64 Da, .int .u64 Na] ?_ ?_ 25 _ KZ.out (size4 _ _ _ _) ?_ (one4 _ _ _ _) ?_); rfl; rfl; rfl))
            refine ret_cell10 w.heap.size #[.int .u64 Ga, .int .i64 Ba, .int .u64 Da, .int .u64 Na] (0, 0) rfl (setRow_heap _ _ _ _ _ _ KZ.out) rfl rfl ⟨?_, below_setRow B3.out (Nat.le_refl _) _⟩
            rw [HRN.out]
            rfl
          · have t5 : decide (Gb < Ga) = false := decide_eq_false q5
            have RN : stt a b 2 = ⟨Gb, Bb, Db, Nb, 1, 0⟩ := by
              rw [hst]
              rw [if_pos (c := ea = 0 ∧ Ga % 2 = 0 ∧ 0 < Ga) ⟨q1, q2, by have := pa q1; omega⟩]
              exact if_pos ⟨q3, q4, by show Ga < Gb; omega⟩
            have HRN := Lib.hid RN
            clear RN hst pa pb
            clear q1 q2 q3 q4 q5
            go_enter Try.func10, Try.ntmps10
            go_wp2_with fail
            refine (rtake_at a _ H1.out W1.out C1.out EA.out.1 EA.out.2.1 EA.out.2.2.1 EA.out.2.2.2.1 EA.out.2.2.2.2).mono ?_; rintro e w2 ⟨rfl, hb2⟩
            have Z2 := Lib.hid (alloc_row (keep_row HZ.out hb2) (.cells #[.int .u64 Ga, .int .i64 Ba, .int .u64 Da, .int .u64 Na] 25))
            have X2 := Lib.hid (heap_alloc_new w2 (.cells #[.int .u64 Ga, .int .i64 Ba, .int .u64 Da, .int .u64 Na] 25))
            have B2 := Lib.hid ((below_then HBZ.out HBZ.out.size hb2).alloc (below_then HBZ.out HBZ.out.size hb2).size (.cells #[.int .u64 Ga, .int .i64 Ba, .int .u64 Da, .int .u64 Na] 25))
            clear hb2
            go_wp2_with fail
            refine (rtake_at b _ (ReadsInt.below H2.out B2.out) W2.out C2.out EB.out.1 EB.out.2.1 EB.out.2.2.1 EB.out.2.2.2.1 EB.out.2.2.2.2).mono ?_; rintro e w3 ⟨rfl, hb3⟩
            have KZ := Lib.hid (alloc_row (keep_row Z2.out hb3) (.cells #[.int .u64 Gb, .int .i64 Bb, .int .u64 Db, .int .u64 Nb] 25))
            have KA := Lib.hid (alloc_row (keep_row X2.out hb3) (.cells #[.int .u64 Gb, .int .i64 Bb, .int .u64 Db, .int .u64 Nb] 25))
            have KB := Lib.hid (heap_alloc_new w3 (.cells #[.int .u64 Gb, .int .i64 Bb, .int .u64 Db, .int .u64 Nb] 25))
            have B3 := Lib.hid ((below_then B2.out B2.out.size hb3).alloc (below_then B2.out B2.out.size hb3).size (.cells #[.int .u64 Gb, .int .i64 Bb, .int .u64 Db, .int .u64 Nb] 25))
            have ca := (cells4 KA.out).1
            have cb := (cells4 KB.out).1
            clear hb3
            go_wp2_with (first | (((with_reducible refine wpList_load_row rfl 25 (.tmp 9) rfl w3.heap.size ?_ 25 _ _ _ KB.out Try.underlying25 ?_ (size4 _ _ _ _) ?_); rfl; rfl)) | ((with_reducible refine wpList_store_row rfl 25 (.tmp 4) (.tmp 53) rfl w.heap.size #[.int .u64 Gb, .int .i64 Bb, .int .u64 Db, .int .u64 Nb] ?_ ?_ 25 _ KZ.out (size4 _ _ _ _) ?_ (one4 _ _ _ _) ?_); rfl; rfl; rfl))
            refine ret_cell10 w.heap.size #[.int .u64 Gb, .int .i64 Bb, .int .u64 Db, .int .u64 Nb] (0, 0) rfl (setRow_heap _ _ _ _ _ _ KZ.out) rfl rfl ⟨?_, below_setRow B3.out (Nat.le_refl _) _⟩
            rw [HRN.out]
            rfl
        · have t1 : (ea == 0) = true := by simpa using q1
          have t2 : (Ga % 2 == 0) = true := by simpa using q2
          have t3 : (eb == 0) = true := by simpa using q3
          have t4 : (Gb % 2 == 1) = false := by simpa using q4
          have RN : stt a b 2 = ⟨Ga, Ba, Da, Na, 0, 0⟩ := by
            rw [hst]
            rw [if_pos (c := ea = 0 ∧ Ga % 2 = 0 ∧ 0 < Ga) ⟨q1, q2, by have := pa q1; omega⟩]
            exact if_neg (fun h => q4 h.2.1)
          have HRN := Lib.hid RN
          clear RN hst pa pb
          clear q1 q2 q3 q4
          go_enter Try.func10, Try.ntmps10
          go_wp2_with fail
          refine (rtake_at a _ H1.out W1.out C1.out EA.out.1 EA.out.2.1 EA.out.2.2.1 EA.out.2.2.2.1 EA.out.2.2.2.2).mono ?_; rintro e w2 ⟨rfl, hb2⟩
          have Z2 := Lib.hid (alloc_row (keep_row HZ.out hb2) (.cells #[.int .u64 Ga, .int .i64 Ba, .int .u64 Da, .int .u64 Na] 25))
          have X2 := Lib.hid (heap_alloc_new w2 (.cells #[.int .u64 Ga, .int .i64 Ba, .int .u64 Da, .int .u64 Na] 25))
          have B2 := Lib.hid ((below_then HBZ.out HBZ.out.size hb2).alloc (below_then HBZ.out HBZ.out.size hb2).size (.cells #[.int .u64 Ga, .int .i64 Ba, .int .u64 Da, .int .u64 Na] 25))
          clear hb2
          go_wp2_with fail
          refine (rtake_at b _ (ReadsInt.below H2.out B2.out) W2.out C2.out EB.out.1 EB.out.2.1 EB.out.2.2.1 EB.out.2.2.2.1 EB.out.2.2.2.2).mono ?_; rintro e w3 ⟨rfl, hb3⟩
          have KZ := Lib.hid (alloc_row (keep_row Z2.out hb3) (.cells #[.int .u64 Gb, .int .i64 Bb, .int .u64 Db, .int .u64 Nb] 25))
          have KA := Lib.hid (alloc_row (keep_row X2.out hb3) (.cells #[.int .u64 Gb, .int .i64 Bb, .int .u64 Db, .int .u64 Nb] 25))
          have KB := Lib.hid (heap_alloc_new w3 (.cells #[.int .u64 Gb, .int .i64 Bb, .int .u64 Db, .int .u64 Nb] 25))
          have B3 := Lib.hid ((below_then B2.out B2.out.size hb3).alloc (below_then B2.out B2.out.size hb3).size (.cells #[.int .u64 Gb, .int .i64 Bb, .int .u64 Db, .int .u64 Nb] 25))
          have ca := (cells4 KA.out).1
          have cb := (cells4 KB.out).1
          clear hb3
          go_wp2_with (first | (((with_reducible refine wpList_load_row rfl 25 (.tmp 7) rfl w2.heap.size ?_ 25 _ _ _ KA.out Try.underlying25 ?_ (size4 _ _ _ _) ?_); rfl; rfl)) | ((with_reducible refine wpList_store_row rfl 25 (.tmp 4) (.tmp 51) rfl w.heap.size #[.int .u64 Ga, .int .i64 Ba, .int .u64 Da, .int .u64 Na] ?_ ?_ 25 _ KZ.out (size4 _ _ _ _) ?_ (one4 _ _ _ _) ?_); rfl; rfl; rfl))
          refine ret_cell10 w.heap.size #[.int .u64 Ga, .int .i64 Ba, .int .u64 Da, .int .u64 Na] (0, 0) rfl (setRow_heap _ _ _ _ _ _ KZ.out) rfl rfl ⟨?_, below_setRow B3.out (Nat.le_refl _) _⟩
          rw [HRN.out]
          rfl
      · have t1 : (ea == 0) = true := by simpa using q1
        have t2 : (Ga % 2 == 0) = true := by simpa using q2
        have t3 : (eb == 0) = false := by simpa using q3
        have RN : stt a b 2 = ⟨Ga, Ba, Da, Na, 0, 0⟩ := by
          rw [hst]
          rw [if_pos (c := ea = 0 ∧ Ga % 2 = 0 ∧ 0 < Ga) ⟨q1, q2, by have := pa q1; omega⟩]
          exact if_neg (fun h => q3 h.1)
        have HRN := Lib.hid RN
        clear RN hst pa pb
        clear q1 q2 q3
        go_enter Try.func10, Try.ntmps10
        go_wp2_with fail
        refine (rtake_at a _ H1.out W1.out C1.out EA.out.1 EA.out.2.1 EA.out.2.2.1 EA.out.2.2.2.1 EA.out.2.2.2.2).mono ?_; rintro e w2 ⟨rfl, hb2⟩
        have Z2 := Lib.hid (alloc_row (keep_row HZ.out hb2) (.cells #[.int .u64 Ga, .int .i64 Ba, .int .u64 Da, .int .u64 Na] 25))
        have X2 := Lib.hid (heap_alloc_new w2 (.cells #[.int .u64 Ga, .int .i64 Ba, .int .u64 Da, .int .u64 Na] 25))
        have B2 := Lib.hid ((below_then HBZ.out HBZ.out.size hb2).alloc (below_then HBZ.out HBZ.out.size hb2).size (.cells #[.int .u64 Ga, .int .i64 Ba, .int .u64 Da, .int .u64 Na] 25))
        clear hb2
        go_wp2_with fail
        refine (rtake_at b _ (ReadsInt.below H2.out B2.out) W2.out C2.out EB.out.1 EB.out.2.1 EB.out.2.2.1 EB.out.2.2.2.1 EB.out.2.2.2.2).mono ?_; rintro e w3 ⟨rfl, hb3⟩
        have KZ := Lib.hid (alloc_row (keep_row Z2.out hb3) (.cells #[.int .u64 Gb, .int .i64 Bb, .int .u64 Db, .int .u64 Nb] 25))
        have KA := Lib.hid (alloc_row (keep_row X2.out hb3) (.cells #[.int .u64 Gb, .int .i64 Bb, .int .u64 Db, .int .u64 Nb] 25))
        have KB := Lib.hid (heap_alloc_new w3 (.cells #[.int .u64 Gb, .int .i64 Bb, .int .u64 Db, .int .u64 Nb] 25))
        have B3 := Lib.hid ((below_then B2.out B2.out.size hb3).alloc (below_then B2.out B2.out.size hb3).size (.cells #[.int .u64 Gb, .int .i64 Bb, .int .u64 Db, .int .u64 Nb] 25))
        have ca := (cells4 KA.out).1
        have cb := (cells4 KB.out).1
        clear hb3
        go_wp2_with (first | (((with_reducible refine wpList_load_row rfl 25 (.tmp 7) rfl w2.heap.size ?_ 25 _ _ _ KA.out Try.underlying25 ?_ (size4 _ _ _ _) ?_); rfl; rfl)) | ((with_reducible refine wpList_store_row rfl 25 (.tmp 4) (.tmp 51) rfl w.heap.size #[.int .u64 Ga, .int .i64 Ba, .int .u64 Da, .int .u64 Na] ?_ ?_ 25 _ KZ.out (size4 _ _ _ _) ?_ (one4 _ _ _ _) ?_); rfl; rfl; rfl))
        refine ret_cell10 w.heap.size #[.int .u64 Ga, .int .i64 Ba, .int .u64 Da, .int .u64 Na] (0, 0) rfl (setRow_heap _ _ _ _ _ _ KZ.out) rfl rfl ⟨?_, below_setRow B3.out (Nat.le_refl _) _⟩
        rw [HRN.out]
        rfl
    · by_cases q3 : eb = 0
      · by_cases q4 : Gb % 2 = 1
        · have t1 : (ea == 0) = true := by simpa using q1
          have t2 : (Ga % 2 == 0) = false := by simpa using q2
          have t3 : (eb == 0) = true := by simpa using q3
          have t4 : (Gb % 2 == 1) = true := by simpa using q4
          have RN : stt a b 2 = ⟨Gb, Bb, Db, Nb, 1, 0⟩ := by
            rw [hst]
            rw [if_neg (c := ea = 0 ∧ Ga % 2 = 0 ∧ 0 < Ga) (fun h => q2 h.2.1)]
            exact if_pos ⟨q3, q4, by show (0 : Int) < Gb; have := pb q3; omega⟩
          have HRN := Lib.hid RN
          clear RN hst pa pb
          clear q1 q2 q3 q4
          go_enter Try.func10, Try.ntmps10
          go_wp2_with fail
          refine (rtake_at a _ H1.out W1.out C1.out EA.out.1 EA.out.2.1 EA.out.2.2.1 EA.out.2.2.2.1 EA.out.2.2.2.2).mono ?_; rintro e w2 ⟨rfl, hb2⟩
          have Z2 := Lib.hid (alloc_row (keep_row HZ.out hb2) (.cells #[.int .u64 Ga, .int .i64 Ba, .int .u64 Da, .int .u64 Na] 25))
          have X2 := Lib.hid (heap_alloc_new w2 (.cells #[.int .u64 Ga, .int .i64 Ba, .int .u64 Da, .int .u64 Na] 25))
          have B2 := Lib.hid ((below_then HBZ.out HBZ.out.size hb2).alloc (below_then HBZ.out HBZ.out.size hb2).size (.cells #[.int .u64 Ga, .int .i64 Ba, .int .u64 Da, .int .u64 Na] 25))
          clear hb2
          go_wp2_with fail
          refine (rtake_at b _ (ReadsInt.below H2.out B2.out) W2.out C2.out EB.out.1 EB.out.2.1 EB.out.2.2.1 EB.out.2.2.2.1 EB.out.2.2.2.2).mono ?_; rintro e w3 ⟨rfl, hb3⟩
          have KZ := Lib.hid (alloc_row (keep_row Z2.out hb3) (.cells #[.int .u64 Gb, .int .i64 Bb, .int .u64 Db, .int .u64 Nb] 25))
          have KA := Lib.hid (alloc_row (keep_row X2.out hb3) (.cells #[.int .u64 Gb, .int .i64 Bb, .int .u64 Db, .int .u64 Nb] 25))
          have KB := Lib.hid (heap_alloc_new w3 (.cells #[.int .u64 Gb, .int .i64 Bb, .int .u64 Db, .int .u64 Nb] 25))
          have B3 := Lib.hid ((below_then B2.out B2.out.size hb3).alloc (below_then B2.out B2.out.size hb3).size (.cells #[.int .u64 Gb, .int .i64 Bb, .int .u64 Db, .int .u64 Nb] 25))
          have ca := (cells4 KA.out).1
          have cb := (cells4 KB.out).1
          clear hb3
          go_wp2_with (first | (((with_reducible refine wpList_load_row rfl 25 (.tmp 9) rfl w3.heap.size ?_ 25 _ _ _ KB.out Try.underlying25 ?_ (size4 _ _ _ _) ?_); rfl; rfl)) | ((with_reducible refine wpList_store_row rfl 25 (.tmp 4) (.tmp 53) rfl w.heap.size #[.int .u64 Gb, .int .i64 Bb, .int .u64 Db, .int .u64 Nb] ?_ ?_ 25 _ KZ.out (size4 _ _ _ _) ?_ (one4 _ _ _ _) ?_); rfl; rfl; rfl))
          refine ret_cell10 w.heap.size #[.int .u64 Gb, .int .i64 Bb, .int .u64 Db, .int .u64 Nb] (0, 0) rfl (setRow_heap _ _ _ _ _ _ KZ.out) rfl rfl ⟨?_, below_setRow B3.out (Nat.le_refl _) _⟩
          rw [HRN.out]
          rfl
        · have t1 : (ea == 0) = true := by simpa using q1
          have t2 : (Ga % 2 == 0) = false := by simpa using q2
          have t3 : (eb == 0) = true := by simpa using q3
          have t4 : (Gb % 2 == 1) = false := by simpa using q4
          have RN : stt a b 2 = ⟨0, 0, 0, 0, 0, 23⟩ := by
            rw [hst]
            rw [if_neg (c := ea = 0 ∧ Ga % 2 = 0 ∧ 0 < Ga) (fun h => q2 h.2.1)]
            exact if_neg (fun h => q4 h.2.1)
          have HRN := Lib.hid RN
          clear RN hst pa pb
          clear q1 q2 q3 q4
          go_enter Try.func10, Try.ntmps10
          go_wp2_with fail
          refine (rtake_at a _ H1.out W1.out C1.out EA.out.1 EA.out.2.1 EA.out.2.2.1 EA.out.2.2.2.1 EA.out.2.2.2.2).mono ?_; rintro e w2 ⟨rfl, hb2⟩
          have Z2 := Lib.hid (alloc_row (keep_row HZ.out hb2) (.cells #[.int .u64 Ga, .int .i64 Ba, .int .u64 Da, .int .u64 Na] 25))
          have X2 := Lib.hid (heap_alloc_new w2 (.cells #[.int .u64 Ga, .int .i64 Ba, .int .u64 Da, .int .u64 Na] 25))
          have B2 := Lib.hid ((below_then HBZ.out HBZ.out.size hb2).alloc (below_then HBZ.out HBZ.out.size hb2).size (.cells #[.int .u64 Ga, .int .i64 Ba, .int .u64 Da, .int .u64 Na] 25))
          clear hb2
          go_wp2_with fail
          refine (rtake_at b _ (ReadsInt.below H2.out B2.out) W2.out C2.out EB.out.1 EB.out.2.1 EB.out.2.2.1 EB.out.2.2.2.1 EB.out.2.2.2.2).mono ?_; rintro e w3 ⟨rfl, hb3⟩
          have KZ := Lib.hid (alloc_row (keep_row Z2.out hb3) (.cells #[.int .u64 Gb, .int .i64 Bb, .int .u64 Db, .int .u64 Nb] 25))
          have KA := Lib.hid (alloc_row (keep_row X2.out hb3) (.cells #[.int .u64 Gb, .int .i64 Bb, .int .u64 Db, .int .u64 Nb] 25))
          have KB := Lib.hid (heap_alloc_new w3 (.cells #[.int .u64 Gb, .int .i64 Bb, .int .u64 Db, .int .u64 Nb] 25))
          have B3 := Lib.hid ((below_then B2.out B2.out.size hb3).alloc (below_then B2.out B2.out.size hb3).size (.cells #[.int .u64 Gb, .int .i64 Bb, .int .u64 Db, .int .u64 Nb] 25))
          have ca := (cells4 KA.out).1
          have cb := (cells4 KB.out).1
          clear hb3
          go_wp2_with (((with_reducible refine wpList_store_row rfl 25 (.tmp 4) (.tmp 54) rfl w.heap.size #[.int .u64 0, .int .i64 0, .int .u64 0, .int .u64 0] ?_ ?_ 25 _ KZ.out (size4 _ _ _ _) ?_ (one4 _ _ _ _) ?_); rfl; rfl; rfl))
          refine ret_cell10 w.heap.size #[.int .u64 0, .int .i64 0, .int .u64 0, .int .u64 0] (0, 0) rfl (setRow_heap _ _ _ _ _ _ KZ.out) rfl rfl ⟨?_, below_setRow B3.out (Nat.le_refl _) _⟩
          rw [HRN.out]
          rfl
      · have t1 : (ea == 0) = true := by simpa using q1
        have t2 : (Ga % 2 == 0) = false := by simpa using q2
        have t3 : (eb == 0) = false := by simpa using q3
        have RN : stt a b 2 = ⟨0, 0, 0, 0, 0, 23⟩ := by
          rw [hst]
          rw [if_neg (c := ea = 0 ∧ Ga % 2 = 0 ∧ 0 < Ga) (fun h => q2 h.2.1)]
          exact if_neg (fun h => q3 h.1)
        have HRN := Lib.hid RN
        clear RN hst pa pb
        clear q1 q2 q3
        go_enter Try.func10, Try.ntmps10
        go_wp2_with fail
        refine (rtake_at a _ H1.out W1.out C1.out EA.out.1 EA.out.2.1 EA.out.2.2.1 EA.out.2.2.2.1 EA.out.2.2.2.2).mono ?_; rintro e w2 ⟨rfl, hb2⟩
        have Z2 := Lib.hid (alloc_row (keep_row HZ.out hb2) (.cells #[.int .u64 Ga, .int .i64 Ba, .int .u64 Da, .int .u64 Na] 25))
        have X2 := Lib.hid (heap_alloc_new w2 (.cells #[.int .u64 Ga, .int .i64 Ba, .int .u64 Da, .int .u64 Na] 25))
        have B2 := Lib.hid ((below_then HBZ.out HBZ.out.size hb2).alloc (below_then HBZ.out HBZ.out.size hb2).size (.cells #[.int .u64 Ga, .int .i64 Ba, .int .u64 Da, .int .u64 Na] 25))
        clear hb2
        go_wp2_with fail
        refine (rtake_at b _ (ReadsInt.below H2.out B2.out) W2.out C2.out EB.out.1 EB.out.2.1 EB.out.2.2.1 EB.out.2.2.2.1 EB.out.2.2.2.2).mono ?_; rintro e w3 ⟨rfl, hb3⟩
        have KZ := Lib.hid (alloc_row (keep_row Z2.out hb3) (.cells #[.int .u64 Gb, .int .i64 Bb, .int .u64 Db, .int .u64 Nb] 25))
        have KA := Lib.hid (alloc_row (keep_row X2.out hb3) (.cells #[.int .u64 Gb, .int .i64 Bb, .int .u64 Db, .int .u64 Nb] 25))
        have KB := Lib.hid (heap_alloc_new w3 (.cells #[.int .u64 Gb, .int .i64 Bb, .int .u64 Db, .int .u64 Nb] 25))
        have B3 := Lib.hid ((below_then B2.out B2.out.size hb3).alloc (below_then B2.out B2.out.size hb3).size (.cells #[.int .u64 Gb, .int .i64 Bb, .int .u64 Db, .int .u64 Nb] 25))
        have ca := (cells4 KA.out).1
        have cb := (cells4 KB.out).1
        clear hb3
        go_wp2_with (((with_reducible refine wpList_store_row rfl 25 (.tmp 4) (.tmp 54) rfl w.heap.size #[.int .u64 0, .int .i64 0, .int .u64 0, .int .u64 0] ?_ ?_ 25 _ KZ.out (size4 _ _ _ _) ?_ (one4 _ _ _ _) ?_); rfl; rfl; rfl))
        refine ret_cell10 w.heap.size #[.int .u64 0, .int .i64 0, .int .u64 0, .int .u64 0] (0, 0) rfl (setRow_heap _ _ _ _ _ _ KZ.out) rfl rfl ⟨?_, below_setRow B3.out (Nat.le_refl _) _⟩
        rw [HRN.out]
        rfl
  · by_cases q3 : eb = 0
    · by_cases q4 : Gb % 2 = 1
      · have t1 : (ea == 0) = false := by simpa using q1
        have t3 : (eb == 0) = true := by simpa using q3
        have t4 : (Gb % 2 == 1) = true := by simpa using q4
        have RN : stt a b 2 = ⟨Gb, Bb, Db, Nb, 1, 0⟩ := by
          rw [hst]
          rw [if_neg (c := ea = 0 ∧ Ga % 2 = 0 ∧ 0 < Ga) (fun h => q1 h.1)]
          exact if_pos ⟨q3, q4, by show (0 : Int) < Gb; have := pb q3; omega⟩
        have HRN := Lib.hid RN
        clear RN hst pa pb
        clear q1 q3 q4
        go_enter Try.func10, Try.ntmps10
        go_wp2_with fail
        refine (rtake_at a _ H1.out W1.out C1.out EA.out.1 EA.out.2.1 EA.out.2.2.1 EA.out.2.2.2.1 EA.out.2.2.2.2).mono ?_; rintro e w2 ⟨rfl, hb2⟩
        have Z2 := Lib.hid (alloc_row (keep_row HZ.out hb2) (.cells #[.int .u64 Ga, .int .i64 Ba, .int .u64 Da, .int .u64 Na] 25))
        have X2 := Lib.hid (heap_alloc_new w2 (.cells #[.int .u64 Ga, .int .i64 Ba, .int .u64 Da, .int .u64 Na] 25))
        have B2 := Lib.hid ((below_then HBZ.out HBZ.out.size hb2).alloc (below_then HBZ.out HBZ.out.size hb2).size (.cells #[.int .u64 Ga, .int .i64 Ba, .int .u64 Da, .int .u64 Na] 25))
        clear hb2
        go_wp2_with fail
        refine (rtake_at b _ (ReadsInt.below H2.out B2.out) W2.out C2.out EB.out.1 EB.out.2.1 EB.out.2.2.1 EB.out.2.2.2.1 EB.out.2.2.2.2).mono ?_; rintro e w3 ⟨rfl, hb3⟩
        have KZ := Lib.hid (alloc_row (keep_row Z2.out hb3) (.cells #[.int .u64 Gb, .int .i64 Bb, .int .u64 Db, .int .u64 Nb] 25))
        have KA := Lib.hid (alloc_row (keep_row X2.out hb3) (.cells #[.int .u64 Gb, .int .i64 Bb, .int .u64 Db, .int .u64 Nb] 25))
        have KB := Lib.hid (heap_alloc_new w3 (.cells #[.int .u64 Gb, .int .i64 Bb, .int .u64 Db, .int .u64 Nb] 25))
        have B3 := Lib.hid ((below_then B2.out B2.out.size hb3).alloc (below_then B2.out B2.out.size hb3).size (.cells #[.int .u64 Gb, .int .i64 Bb, .int .u64 Db, .int .u64 Nb] 25))
        have ca := (cells4 KA.out).1
        have cb := (cells4 KB.out).1
        clear hb3
        go_wp2_with (first | (((with_reducible refine wpList_load_row rfl 25 (.tmp 9) rfl w3.heap.size ?_ 25 _ _ _ KB.out Try.underlying25 ?_ (size4 _ _ _ _) ?_); rfl; rfl)) | ((with_reducible refine wpList_store_row rfl 25 (.tmp 4) (.tmp 53) rfl w.heap.size #[.int .u64 Gb, .int .i64 Bb, .int .u64 Db, .int .u64 Nb] ?_ ?_ 25 _ KZ.out (size4 _ _ _ _) ?_ (one4 _ _ _ _) ?_); rfl; rfl; rfl))
        refine ret_cell10 w.heap.size #[.int .u64 Gb, .int .i64 Bb, .int .u64 Db, .int .u64 Nb] (0, 0) rfl (setRow_heap _ _ _ _ _ _ KZ.out) rfl rfl ⟨?_, below_setRow B3.out (Nat.le_refl _) _⟩
        rw [HRN.out]
        rfl
      · have t1 : (ea == 0) = false := by simpa using q1
        have t3 : (eb == 0) = true := by simpa using q3
        have t4 : (Gb % 2 == 1) = false := by simpa using q4
        have RN : stt a b 2 = ⟨0, 0, 0, 0, 0, 23⟩ := by
          rw [hst]
          rw [if_neg (c := ea = 0 ∧ Ga % 2 = 0 ∧ 0 < Ga) (fun h => q1 h.1)]
          exact if_neg (fun h => q4 h.2.1)
        have HRN := Lib.hid RN
        clear RN hst pa pb
        clear q1 q3 q4
        go_enter Try.func10, Try.ntmps10
        go_wp2_with fail
        refine (rtake_at a _ H1.out W1.out C1.out EA.out.1 EA.out.2.1 EA.out.2.2.1 EA.out.2.2.2.1 EA.out.2.2.2.2).mono ?_; rintro e w2 ⟨rfl, hb2⟩
        have Z2 := Lib.hid (alloc_row (keep_row HZ.out hb2) (.cells #[.int .u64 Ga, .int .i64 Ba, .int .u64 Da, .int .u64 Na] 25))
        have X2 := Lib.hid (heap_alloc_new w2 (.cells #[.int .u64 Ga, .int .i64 Ba, .int .u64 Da, .int .u64 Na] 25))
        have B2 := Lib.hid ((below_then HBZ.out HBZ.out.size hb2).alloc (below_then HBZ.out HBZ.out.size hb2).size (.cells #[.int .u64 Ga, .int .i64 Ba, .int .u64 Da, .int .u64 Na] 25))
        clear hb2
        go_wp2_with fail
        refine (rtake_at b _ (ReadsInt.below H2.out B2.out) W2.out C2.out EB.out.1 EB.out.2.1 EB.out.2.2.1 EB.out.2.2.2.1 EB.out.2.2.2.2).mono ?_; rintro e w3 ⟨rfl, hb3⟩
        have KZ := Lib.hid (alloc_row (keep_row Z2.out hb3) (.cells #[.int .u64 Gb, .int .i64 Bb, .int .u64 Db, .int .u64 Nb] 25))
        have KA := Lib.hid (alloc_row (keep_row X2.out hb3) (.cells #[.int .u64 Gb, .int .i64 Bb, .int .u64 Db, .int .u64 Nb] 25))
        have KB := Lib.hid (heap_alloc_new w3 (.cells #[.int .u64 Gb, .int .i64 Bb, .int .u64 Db, .int .u64 Nb] 25))
        have B3 := Lib.hid ((below_then B2.out B2.out.size hb3).alloc (below_then B2.out B2.out.size hb3).size (.cells #[.int .u64 Gb, .int .i64 Bb, .int .u64 Db, .int .u64 Nb] 25))
        have ca := (cells4 KA.out).1
        have cb := (cells4 KB.out).1
        clear hb3
        go_wp2_with (((with_reducible refine wpList_store_row rfl 25 (.tmp 4) (.tmp 54) rfl w.heap.size #[.int .u64 0, .int .i64 0, .int .u64 0, .int .u64 0] ?_ ?_ 25 _ KZ.out (size4 _ _ _ _) ?_ (one4 _ _ _ _) ?_); rfl; rfl; rfl))
        refine ret_cell10 w.heap.size #[.int .u64 0, .int .i64 0, .int .u64 0, .int .u64 0] (0, 0) rfl (setRow_heap _ _ _ _ _ _ KZ.out) rfl rfl ⟨?_, below_setRow B3.out (Nat.le_refl _) _⟩
        rw [HRN.out]
        rfl
    · have t1 : (ea == 0) = false := by simpa using q1
      have t3 : (eb == 0) = false := by simpa using q3
      have RN : stt a b 2 = ⟨0, 0, 0, 0, 0, 23⟩ := by
        rw [hst]
        rw [if_neg (c := ea = 0 ∧ Ga % 2 = 0 ∧ 0 < Ga) (fun h => q1 h.1)]
        exact if_neg (fun h => q3 h.1)
      have HRN := Lib.hid RN
      clear RN hst pa pb
      clear q1 q3
      go_enter Try.func10, Try.ntmps10
      go_wp2_with fail
      refine (rtake_at a _ H1.out W1.out C1.out EA.out.1 EA.out.2.1 EA.out.2.2.1 EA.out.2.2.2.1 EA.out.2.2.2.2).mono ?_; rintro e w2 ⟨rfl, hb2⟩
      have Z2 := Lib.hid (alloc_row (keep_row HZ.out hb2) (.cells #[.int .u64 Ga, .int .i64 Ba, .int .u64 Da, .int .u64 Na] 25))
      have X2 := Lib.hid (heap_alloc_new w2 (.cells #[.int .u64 Ga, .int .i64 Ba, .int .u64 Da, .int .u64 Na] 25))
      have B2 := Lib.hid ((below_then HBZ.out HBZ.out.size hb2).alloc (below_then HBZ.out HBZ.out.size hb2).size (.cells #[.int .u64 Ga, .int .i64 Ba, .int .u64 Da, .int .u64 Na] 25))
      clear hb2
      go_wp2_with fail
      refine (rtake_at b _ (ReadsInt.below H2.out B2.out) W2.out C2.out EB.out.1 EB.out.2.1 EB.out.2.2.1 EB.out.2.2.2.1 EB.out.2.2.2.2).mono ?_; rintro e w3 ⟨rfl, hb3⟩
      have KZ := Lib.hid (alloc_row (keep_row Z2.out hb3) (.cells #[.int .u64 Gb, .int .i64 Bb, .int .u64 Db, .int .u64 Nb] 25))
      have KA := Lib.hid (alloc_row (keep_row X2.out hb3) (.cells #[.int .u64 Gb, .int .i64 Bb, .int .u64 Db, .int .u64 Nb] 25))
      have KB := Lib.hid (heap_alloc_new w3 (.cells #[.int .u64 Gb, .int .i64 Bb, .int .u64 Db, .int .u64 Nb] 25))
      have B3 := Lib.hid ((below_then B2.out B2.out.size hb3).alloc (below_then B2.out B2.out.size hb3).size (.cells #[.int .u64 Gb, .int .i64 Bb, .int .u64 Db, .int .u64 Nb] 25))
      have ca := (cells4 KA.out).1
      have cb := (cells4 KB.out).1
      clear hb3
      go_wp2_with (((with_reducible refine wpList_store_row rfl 25 (.tmp 4) (.tmp 54) rfl w.heap.size #[.int .u64 0, .int .i64 0, .int .u64 0, .int .u64 0] ?_ ?_ 25 _ KZ.out (size4 _ _ _ _) ?_ (one4 _ _ _ _) ?_); rfl; rfl; rfl))
      refine ret_cell10 w.heap.size #[.int .u64 0, .int .i64 0, .int .u64 0, .int .u64 0] (0, 0) rfl (setRow_heap _ _ _ _ _ _ KZ.out) rfl rfl ⟨?_, below_setRow B3.out (Nat.le_refl _) _⟩
      rw [HRN.out]
      rfl
end Go.Proofs.Ytnnclfaibcedoaa.Sup
