/- Knots: halves are together the node, and as long: the walk. -/
import Derived.BigQuiet
import Derived.Test.YtdekplalhfpooaaKntK
set_option linter.unusedVariables false
set_option linter.unusedSimpArgs false
namespace Go.Proofs.Ytdekplalhfpooaa.Knt
open Go Go.RowKit Go.Proofs.YtdekplalhfpooaaW.PrintWords Go.Proofs.YtdekplalhfpooaaW.PrintLast Go.Proofs.YtdekplalhfpooaaW.PrintMore Base Odr Hlp Nod

/-- Blocks and lists of numbers that stay. -/
def Keeps (R : List (Nat × Obj)) (D : List (Option Addr × Nat × List Int)) (W : World) : Prop := (∀ p ∈ R, W.heap[p.1]? = some p.2) ∧ ∀ r ∈ D, ReadsInt W .u64 r.1 r.2.1 r.2.2
theorem Keeps.row {R : List (Nat × Obj)} {D : List (Option Addr × Nat × List Int)} {W : World} (h : Keeps R D W) (i : Nat) {g : Nat} {o : Obj} (hi : R[i]? = some (g, o)) : W.heap[g]? = some o := h.1 _ (List.mem_of_getElem? hi)
theorem Keeps.rd {R : List (Nat × Obj)} {D : List (Option Addr × Nat × List Int)} {W : World} (h : Keeps R D W) (i : Nat) {A : Option Addr} {n : Nat} {xs : List Int} (hi : D[i]? = some (A, n, xs)) : ReadsInt W .u64 A n xs := h.2 _ (List.mem_of_getElem? hi)
theorem Keeps.nil {W : World} : Keeps [] [] W := ⟨fun _ h => absurd h List.not_mem_nil, fun _ h => absurd h List.not_mem_nil⟩
theorem Keeps.addRow {R : List (Nat × Obj)} {D : List (Option Addr × Nat × List Int)} {W : World} (h : Keeps R D W) {g : Nat} {o : Obj} (hg : W.heap[g]? = some o) : Keeps ((g, o) :: R) D W := by
  refine ⟨fun p hp => ?_, h.2⟩
  rcases List.mem_cons.1 hp with rfl | hp
  · exact hg
  · exact h.1 p hp
theorem Keeps.addRd {R : List (Nat × Obj)} {D : List (Option Addr × Nat × List Int)} {W : World} (h : Keeps R D W) {A : Option Addr} {n : Nat} {xs : List Int} (hg : ReadsInt W .u64 A n xs) : Keeps R ((A, n, xs) :: D) W := by
  refine ⟨h.1, fun p hp => ?_⟩
  rcases List.mem_cons.1 hp with rfl | hp
  · exact hg
  · exact h.2 p hp
theorem Keeps.below {R : List (Nat × Obj)} {D : List (Option Addr × Nat × List Int)} {W W' : World} (h : Keeps R D W) (hb : Below W.heap.size W W') : Keeps R D W' := ⟨fun p hp => keep_row (h.1 p hp) hb, fun r hr => (h.2 r hr).below hb⟩
theorem Keeps.drew {R : List (Nat × Obj)} {D : List (Option Addr × Nat × List Int)} {W : World} (h : Keeps R D W) : Keeps R D W.drew := h
theorem Keeps.dn {R : List (Nat × Obj)} {D : List (Option Addr × Nat × List Int)} {W : World} (h : Keeps R D W) (n : Nat) : Keeps R D (W.drewN n) := h
theorem cut_join {K : List Int} {q h d : Nat} (hl : K.length = q) (hd : q - h = d) : (K.take h).take h ++ (K.drop h).take d = K := by
  rw [List.take_take, Nat.min_self, List.take_of_length_le (l := K.drop h) (by rw [List.length_drop]; omega), List.take_append_drop]
theorem take_q {K : List Int} {q : Nat} (hl : K.length = q) : K.take q = K := List.take_of_length_le (by omega)
theorem rsame_true (L : Bool) (K V K' V' : List Int) (ak av ak' av' : Option Addr) (nk ck nv cv nk' ck' nv' cv' : Nat) (w : World) (HK : ReadsInt w .u64 ak nk K) (HV : ReadsInt w .u64 av nv V) (HK' : ReadsInt w .u64 ak' nk' K') (HV' : ReadsInt w .u64 av' nv' V') (he : K = K') (he' : V = V') :
    Calls Try.prog 26 #[.agg #[.bool L, .slice ak nk ck, .slice av nv cv], .agg #[.bool L, .slice ak' nk' ck', .slice av' nv' cv']] w fun e w' => e = .returned (.bool true) ∧ Below w.heap.size w w' := by
  refine (rsame_any L L K V K' V' ak av ak' av' nk ck nv cv nk' ck' nv' cv' w HK HV HK' HV').mono ?_
  rintro e w' ⟨rfl, hb⟩
  exact ⟨by subst he; subst he'; simp [sameN], hb⟩
set_option maxRecDepth 100000 in
set_option maxHeartbeats 6400000 in
theorem halves_walk (A1 : Option Addr) (c1 : Nat) (l1 : List Int) (w : World) (hr1 : ReadsInt w .u64 A1 l1.length l1) (hl1 : l1.length * 8 ≤ 140737488351232) (hw1 : ∀ x ∈ l1, (Lit.int .u64 x).wf = true) (hc1 : l1.length ≤ c1)
    (A2 : Option Addr) (c2 : Nat) (l2 : List Int) (hr2 : ReadsInt w .u64 A2 l2.length l2) (hl2 : l2.length * 8 ≤ 140737488351232) (hw2 : ∀ x ∈ l2, (Lit.int .u64 x).wf = true) (hc2 : l2.length ≤ c2) :
    Calls Try.prog 5 #[.slice A1 l1.length c1, .slice A2 l2.length c2] w fun e w' => e = .returned (.bool true) ∧ Below w.heap.size w w' := by
  clear hw1 hw2 hc1 hc2
  obtain ⟨n1, hn1⟩ : ∃ n, l1.length = n := ⟨_, rfl⟩
  obtain ⟨n2, hn2⟩ : ∃ n, l2.length = n := ⟨_, rfl⟩
  rw [hn1] at hr1 hl1 ⊢
  rw [hn2] at hr2 hl2 ⊢
  have HL := Lib.hid (And.intro hl1 hl2)
  have R0 := Lib.hid (And.intro hr1 hr2)
  clear hr1 hr2 hl1 hl2 hn1 hn2
  go_enter Try.func5, Try.ntmps5
  go_wp2_with fail
  refine (rising_at l1 A1 n1 c1 _ R0.out.1 (by have := HL.out; omega)).mono ?_; rintro e w1 ⟨q1, K1, hq1, hup1, a1, k1, b1, v1, rfl, ho, hb⟩
  have Q1 := Lib.hid (And.intro hq1 hup1)
  have O1 := Lib.hid ho
  have B1 := Lib.hid hb
  have K1_ := Lib.hid (((Keeps.nil (W := w1)).addRd (mine_reads ho.k)).addRd (mine_reads ho.v))
  have R1 := Lib.hid (R0.out.2.below hb)
  have T1 := Lib.hid (And.intro (take_q ho.k.1) (take_q ho.v.1))
  clear hq1 hup1 ho hb R0
  go_wp2_with fail
  refine (rising_at l2 A2 n2 c2 _ R1.out (by have := HL.out; omega)).mono ?_; rintro e w2 ⟨q2, K2, hq2, hup2, a2, k2, b2, v2, rfl, ho, hb⟩
  have Q2 := Lib.hid (And.intro hq2 hup2)
  have O2 := Lib.hid ho
  have B2 := Lib.hid (below_then' B1.out hb)
  have K2_ := Lib.hid (((K1_.out.below hb).addRd (mine_reads ho.k)).addRd (mine_reads ho.v))
  have T2 := Lib.hid (And.intro (take_q ho.k.1) (take_q ho.v.1))
  obtain ⟨h1, hh1⟩ : ∃ h, (q1 + 1) / 2 = h := ⟨_, rfl⟩
  obtain ⟨d1, hd1⟩ : ∃ d, q1 - h1 = d := ⟨_, rfl⟩
  obtain ⟨h2, hh2⟩ : ∃ h, (q1 + q2 + 1) / 2 = h := ⟨_, rfl⟩
  obtain ⟨d2, hd2⟩ : ∃ d, q1 + q2 - h2 = d := ⟨_, rfl⟩
  have HD := Lib.hid (And.intro (And.intro hh1 hd1) (And.intro hh2 hd2))
  clear hq2 hup2 ho hb K1_ R1 B1 HL hh1 hd1 hh2 hd2
  obtain ⟨ya, hya⟩ : ∃ x, w2.alloc (.cells #[.bool false, .slice none 0 0, .slice none 0 0] 24) = x := ⟨_, rfl⟩
  obtain ⟨yb, hyb⟩ : ∃ x, ya.alloc (.cells #[.bool false, .slice none 0 0, .slice none 0 0] 24) = x := ⟨_, rfl⟩
  obtain ⟨yc, hyc⟩ : ∃ x, yb.setRow w2.heap.size #[.bool false, .slice a1 q1 k1, .slice b1 q1 v1] = x := ⟨_, rfl⟩
  obtain ⟨yd, hyd⟩ : ∃ x, yc.setRow ya.heap.size #[.bool false, .slice a2 q2 k2, .slice b2 q2 v2] = x := ⟨_, rfl⟩
  have Xy := Lib.hid (two_rows hya hyb hyc hyd)
  have hqya : ya.heap.size = w2.heap.size + 1 := by rw [← hya]; exact World.size_alloc _ _
  have HQya := Lib.hid hqya
  clear hqya
  have K3 := Lib.hid (((K2_.out.below Xy.out.1).addRow Xy.out.2.2.2.1).addRow Xy.out.2.2.2.2)
  have B3 := Lib.hid (below_then' B2.out Xy.out.1)
  go_wp2_with (first | ((with_reducible refine wpList_store_row rfl 24 (.tmp 5) (.tmp 14) rfl w2.heap.size #[.bool false, .slice a1 q1 k1, .slice b1 q1 v1] ?_ ?_ 24 _ Xy.out.2.1 (size3 _ _ _) ?_ (one3 _ _ _ _ _ _ _) ?_); rfl; rfl; rfl; rw [hyc]) | ((with_reducible refine wpList_store_row rfl 24 (.tmp 6) (.tmp 16) rfl ya.heap.size #[.bool false, .slice a2 q2 k2, .slice b2 q2 v2] ?_ ?_ 24 _ Xy.out.2.2.1 (size3 _ _ _) ?_ (one3 _ _ _ _ _ _ _) ?_); rfl; rfl; rfl; rw [hyd]) | ((with_reducible refine wpList_load_row rfl 24 (.tmp 5) rfl w2.heap.size ?_ 24 _ _ _ (K3.out.row 1 rfl) Try.underlying24 ?_ (size3 _ _ _) ?_); rfl; rfl))
  clear hya hyb hyc hyd Xy K2_ B2
  refine (split_at false K1 (places q1) a1 b1 q1 k1 q1 v1 q1 h1 d1 _ (K3.out.rd 3 rfl) (K3.out.rd 2 rfl) (Nat.min_self _) HD.out.1.1 HD.out.1.2 ⟨O1.out.lk, O1.out.lv⟩ ⟨fun h => (O1.out.nk h).2, fun h => (O1.out.nv h).2⟩ (by have := Q1.out.1; omega)).mono ?_; rintro e w7 ⟨P1, p1, P2, p2, P3, p3, P4, p4, rfl, o1, o2, -, -, -, -, hb⟩
  rw [T1.out.1, T1.out.2] at o1 o2
  have O3 := Lib.hid o1
  have O4 := Lib.hid o2
  have B7 := Lib.hid (below_then' B3.out hb)
  have K7 := Lib.hid (((((K3.out.below hb).addRd (mine_reads o1.k)).addRd (mine_reads o1.v)).addRd (mine_reads o2.k)).addRd (mine_reads o2.v))
  clear o1 o2 hb K3 B3
  obtain ⟨za, hza⟩ : ∃ x, w7.alloc (.cells #[.bool false, .slice none 0 0, .slice none 0 0] 24) = x := ⟨_, rfl⟩
  obtain ⟨zb, hzb⟩ : ∃ x, za.alloc (.cells #[.bool false, .slice none 0 0, .slice none 0 0] 24) = x := ⟨_, rfl⟩
  obtain ⟨zc, hzc⟩ : ∃ x, zb.setRow w7.heap.size #[.bool false, .slice P1 h1 p1, .slice P2 h1 p2] = x := ⟨_, rfl⟩
  obtain ⟨zd, hzd⟩ : ∃ x, zc.setRow za.heap.size #[.bool false, .slice P3 d1 p3, .slice P4 d1 p4] = x := ⟨_, rfl⟩
  have Xz := Lib.hid (two_rows hza hzb hzc hzd)
  have hqza : za.heap.size = w7.heap.size + 1 := by rw [← hza]; exact World.size_alloc _ _
  have HQza := Lib.hid hqza
  clear hqza
  have K8 := Lib.hid (((K7.out.below Xz.out.1).addRow Xz.out.2.2.2.1).addRow Xz.out.2.2.2.2)
  have B8 := Lib.hid (below_then' B7.out Xz.out.1)
  go_wp2_with (first | ((with_reducible refine wpList_store_row rfl 24 (.tmp 7) (.tmp 20) rfl w7.heap.size #[.bool false, .slice P1 h1 p1, .slice P2 h1 p2] ?_ ?_ 24 _ Xz.out.2.1 (size3 _ _ _) ?_ (one3 _ _ _ _ _ _ _) ?_); rfl; rfl; rfl; rw [hzc]) | ((with_reducible refine wpList_store_row rfl 24 (.tmp 8) (.tmp 21) rfl za.heap.size #[.bool false, .slice P3 d1 p3, .slice P4 d1 p4] ?_ ?_ 24 _ Xz.out.2.2.1 (size3 _ _ _) ?_ (one3 _ _ _ _ _ _ _) ?_); rfl; rfl; rfl; rw [hzd]) | ((with_reducible refine wpList_load_row rfl 24 (.tmp 5) rfl w2.heap.size ?_ 24 _ _ _ (K8.out.row 3 rfl) Try.underlying24 ?_ (size3 _ _ _) ?_); rfl; rfl) | ((with_reducible refine wpList_load_row rfl 24 (.tmp 6) rfl ya.heap.size ?_ 24 _ _ _ (K8.out.row 2 rfl) Try.underlying24 ?_ (size3 _ _ _) ?_); rfl; rfl))
  clear hza hzb hzc hzd Xz K7 B7
  refine (even_at false false K1 (places q1) K2 (places q2) (K1 ++ K2) (places q1 ++ places q2) a1 b1 a2 b2 q1 k1 q1 v1 q2 k2 q2 v2 q1 q2 (q1 + q2) h2 d2 _ (K8.out.rd 7 rfl) (K8.out.rd 6 rfl) (K8.out.rd 5 rfl) (K8.out.rd 4 rfl) (Nat.min_self _) (Nat.min_self _) rfl HD.out.2.1 HD.out.2.2 ⟨by rw [T1.out.1, T2.out.1], by rw [T1.out.2, T2.out.2]⟩ ⟨O1.out.lk, O1.out.lv⟩ ⟨fun h => (O1.out.nk h).2, fun h => (O1.out.nv h).2⟩ ⟨O2.out.lk, O2.out.lv⟩ ⟨fun h => (O2.out.nk h).2, fun h => (O2.out.nv h).2⟩ (by have h1 := Q1.out.1; have h2 := Q2.out.1; omega)).mono ?_; rintro e w12 ⟨S1, s1, S2, s2, S3, s3, S4, s4, rfl, o1, o2, -, -, -, -, hb⟩
  have O5 := Lib.hid o1
  have O6 := Lib.hid o2
  have B12 := Lib.hid (below_then' B8.out hb)
  have K12 := Lib.hid (((((K8.out.below hb).addRd (mine_reads o1.k)).addRd (mine_reads o1.v)).addRd (mine_reads o2.k)).addRd (mine_reads o2.v))
  clear o1 o2 hb K8 B8
  obtain ⟨xa, hxa⟩ : ∃ x, w12.alloc (.cells #[.bool false, .slice none 0 0, .slice none 0 0] 24) = x := ⟨_, rfl⟩
  obtain ⟨xb, hxb⟩ : ∃ x, xa.alloc (.cells #[.bool false, .slice none 0 0, .slice none 0 0] 24) = x := ⟨_, rfl⟩
  obtain ⟨xc, hxc⟩ : ∃ x, xb.setRow w12.heap.size #[.bool false, .slice S1 h2 s1, .slice S2 h2 s2] = x := ⟨_, rfl⟩
  obtain ⟨xd, hxd⟩ : ∃ x, xc.setRow xa.heap.size #[.bool false, .slice S3 d2 s3, .slice S4 d2 s4] = x := ⟨_, rfl⟩
  have Xx := Lib.hid (two_rows hxa hxb hxc hxd)
  have hqxa : xa.heap.size = w12.heap.size + 1 := by rw [← hxa]; exact World.size_alloc _ _
  have HQxa := Lib.hid hqxa
  clear hqxa
  have K13 := Lib.hid (((K12.out.below Xx.out.1).addRow Xx.out.2.2.2.1).addRow Xx.out.2.2.2.2)
  have B13 := Lib.hid (below_then' B12.out Xx.out.1)
  go_wp2_with (first | ((with_reducible refine wpList_store_row rfl 24 (.tmp 9) (.tmp 26) rfl w12.heap.size #[.bool false, .slice S1 h2 s1, .slice S2 h2 s2] ?_ ?_ 24 _ Xx.out.2.1 (size3 _ _ _) ?_ (one3 _ _ _ _ _ _ _) ?_); rfl; rfl; rfl; rw [hxc]) | ((with_reducible refine wpList_store_row rfl 24 (.tmp 10) (.tmp 27) rfl xa.heap.size #[.bool false, .slice S3 d2 s3, .slice S4 d2 s4] ?_ ?_ 24 _ Xx.out.2.2.1 (size3 _ _ _) ?_ (one3 _ _ _ _ _ _ _) ?_); rfl; rfl; rfl; rw [hxd]))
  clear hxa hxb hxc hxd Xx K12 B12
  have x7 : xd.cell? ⟨w7.heap.size, 1, none⟩ = some (.slice P1 h1 p1) := cell_row (K13.out.row 3 rfl) rfl
  have x8 : xd.cell? ⟨za.heap.size, 1, none⟩ = some (.slice P3 d1 p3) := cell_row (K13.out.row 2 rfl) rfl
  have x9 : xd.cell? ⟨w12.heap.size, 1, none⟩ = some (.slice S1 h2 s1) := cell_row (K13.out.row 1 rfl) rfl
  have x10 : xd.cell? ⟨xa.heap.size, 1, none⟩ = some (.slice S3 d2 s3) := cell_row (K13.out.row 0 rfl) rfl
  have J1 := Lib.hid (And.intro (cut_join O1.out.k.1 HD.out.1.2 (h := h1)) (cut_join O1.out.v.1 HD.out.1.2 (h := h1)))
  have J2 := Lib.hid (And.intro (cut_join (K := K1 ++ K2) (q := q1 + q2) (h := h2) (by rw [List.length_append, O1.out.k.1, O2.out.k.1]) HD.out.2.2) (cut_join (K := places q1 ++ places q2) (q := q1 + q2) (h := h2) (by rw [List.length_append, O1.out.v.1, O2.out.v.1]) HD.out.2.2))
  have HS := Lib.hid (show h1 + d1 = q1 ∧ q1 * 8 ≤ 140737488355328 ∧ h2 + d2 = q1 + q2 ∧ (q1 + q2) * 8 ≤ 140737488355328 by have h1 := HD.out; have h2 := Q1.out.1; have h3 := Q2.out.1; omega)
  have hq9 : h1 = d1 ∨ h1 = d1 + 1 := by have h1 := HD.out.1; omega
  have hq8 : h2 = d2 ∨ h2 = d2 + 1 := by have h1 := HD.out.2; omega
  have w0 : IntKind.i64.wrap 0 = 0 := rfl
  have w1' : IntKind.i64.wrap 1 = 1 := rfl
  rcases hq9 with hx1 | hx1
  · have e1 : (h1 : Int) - (d1 : Int) = 0 := by omega
    rcases hq8 with hx2 | hx2
    · have e2 : (h2 : Int) - (d2 : Int) = 0 := by omega
      clear hx1 hx2
      go_quiet (fail)
      clear e1 e2 x7 x8 x9 x10
      have KD := Lib.hid ((K13.out.dn nq).drew)
      have BD := Lib.hid (below_drew (below_dn B13.out nq))
      go_wp2_with fail
      refine start_ (n := 52) (S := fun w' => w'.cell? ⟨w2.heap.size, 0, none⟩ = some (.bool false) ∧ w'.cell? ⟨w2.heap.size, 1, none⟩ = some (.slice a1 q1 k1) ∧ w'.cell? ⟨w2.heap.size, 2, none⟩ = some (.slice b1 q1 v1) ∧ w'.cell? ⟨ya.heap.size, 0, none⟩ = some (.bool false) ∧ w'.cell? ⟨ya.heap.size, 1, none⟩ = some (.slice a2 q2 k2) ∧ w'.cell? ⟨ya.heap.size, 2, none⟩ = some (.slice b2 q2 v2) ∧ w'.cell? ⟨w7.heap.size, 0, none⟩ = some (.bool false) ∧ w'.cell? ⟨w7.heap.size, 1, none⟩ = some (.slice P1 h1 p1) ∧ w'.cell? ⟨w7.heap.size, 2, none⟩ = some (.slice P2 h1 p2) ∧ w'.cell? ⟨za.heap.size, 0, none⟩ = some (.bool false) ∧ w'.cell? ⟨za.heap.size, 1, none⟩ = some (.slice P3 d1 p3) ∧ w'.cell? ⟨za.heap.size, 2, none⟩ = some (.slice P4 d1 p4) ∧ w'.cell? ⟨w12.heap.size, 0, none⟩ = some (.bool false) ∧ w'.cell? ⟨w12.heap.size, 1, none⟩ = some (.slice S1 h2 s1) ∧ w'.cell? ⟨w12.heap.size, 2, none⟩ = some (.slice S2 h2 s2) ∧ w'.cell? ⟨xa.heap.size, 0, none⟩ = some (.bool false) ∧ w'.cell? ⟨xa.heap.size, 1, none⟩ = some (.slice S3 d2 s3) ∧ w'.cell? ⟨xa.heap.size, 2, none⟩ = some (.slice S4 d2 s4)) (ds := []) #[false, false, false, false, false, false, false, false, false, false, false, false, false, false, false, false, false, false, false, false, false, false, false, false, false, false, false, false, false, false, false, false, false, false, false, false, false, false, false, false, false, false, false, false, false, false, false, false, false, false, false, false] (by kernel_rfl) rfl rfl ⟨cell_row (KD.out.row 5 rfl) rfl, cell_row (KD.out.row 5 rfl) rfl, cell_row (KD.out.row 5 rfl) rfl, cell_row (KD.out.row 4 rfl) rfl, cell_row (KD.out.row 4 rfl) rfl, cell_row (KD.out.row 4 rfl) rfl, cell_row (KD.out.row 3 rfl) rfl, cell_row (KD.out.row 3 rfl) rfl, cell_row (KD.out.row 3 rfl) rfl, cell_row (KD.out.row 2 rfl) rfl, cell_row (KD.out.row 2 rfl) rfl, cell_row (KD.out.row 2 rfl) rfl, cell_row (KD.out.row 1 rfl) rfl, cell_row (KD.out.row 1 rfl) rfl, cell_row (KD.out.row 1 rfl) rfl, cell_row (KD.out.row 0 rfl) rfl, cell_row (KD.out.row 0 rfl) rfl, cell_row (KD.out.row 0 rfl) rfl⟩ (fun hHeld => ?_)
      refine one_ (i := 0) (N := some 42) #[true, false, false, false, false, false, false, false, false, false, false, false, false, false, false, false, false, false, false, false, false, false, false, false, false, false, false, false, false, false, false, false, false, false, false, false, false, false, false, false, false, false, false, false, false, false, false, false, false, false, false, false] rfl rfl (by kernel_rfl) (by decide) (fun K hK => ?_)
      refine goes_ Try.func16 (by kernel_rfl) rfl #[] (by rfl) rfl rfl (by simp only [List.map_toArray, List.map_cons, List.map_nil]) ?_
      with_reducible refine (awake_any _).mono ?_
      rintro e w14 ⟨rfl, hb⟩
      refine ⟨_, rfl, ?_⟩
      have K14 := Lib.hid (KD.out.below hb)
      have B14 := Lib.hid (below_then BD.out BD.out.size hb)
      clear hb
      refine hK.out _ _ ⟨cell_row (K14.out.row 5 rfl) rfl, cell_row (K14.out.row 5 rfl) rfl, cell_row (K14.out.row 5 rfl) rfl, cell_row (K14.out.row 4 rfl) rfl, cell_row (K14.out.row 4 rfl) rfl, cell_row (K14.out.row 4 rfl) rfl, cell_row (K14.out.row 3 rfl) rfl, cell_row (K14.out.row 3 rfl) rfl, cell_row (K14.out.row 3 rfl) rfl, cell_row (K14.out.row 2 rfl) rfl, cell_row (K14.out.row 2 rfl) rfl, cell_row (K14.out.row 2 rfl) rfl, cell_row (K14.out.row 1 rfl) rfl, cell_row (K14.out.row 1 rfl) rfl, cell_row (K14.out.row 1 rfl) rfl, cell_row (K14.out.row 0 rfl) rfl, cell_row (K14.out.row 0 rfl) rfl, cell_row (K14.out.row 0 rfl) rfl⟩ (fun hHeld => ?_)
      clear hK K
      refine norm_ (a' := ?_) ?_ ?_
      rotate_left
      · show Act.put _ (some 42) _ = _
        simp only [Act.put, List.setIfInBounds_toArray, List.set_cons_zero, List.set_cons_succ, i64_w, i32_w]
        rfl
      refine pure_ (i := 1) (N := some 43) (v := ?_) (a' := ?_) #[true, true, false, false, false, false, false, false, false, false, false, false, false, false, false, false, false, false, false, false, false, false, false, false, false, false, false, false, false, false, false, false, false, false, false, false, false, false, false, false, false, false, false, false, false, false, false, false, false, false, false, false] rfl rfl (by kernel_rfl) (fun _ _ _ h => h) (Or.inl ⟨by rfl, ?_⟩) ?_ ?_
      rotate_left
      · intro w'
        go_simp
        with_reducible rfl
      rotate_left
      · simp only [Act.put, List.setIfInBounds_toArray, List.set_cons_zero, List.set_cons_succ, i64_w, i32_w]
        rfl
      refine take_ (i := 2) (N := some 44) (v := ?_) (a' := ?_) #[true, true, true, false, false, false, false, false, false, false, false, false, false, false, false, false, false, false, false, false, false, false, false, false, false, false, false, false, false, false, false, false, false, false, false, false, false, false, false, false, false, false, false, false, false, false, false, false, false, false, false, false] rfl rfl (by kernel_rfl) (fun _ _ _ h => h) (Or.inl ⟨by rfl, ?_⟩) hHeld ?_ ?_
      rotate_left
      · rintro w' ⟨s0, s1, s2, s3, s4, s5, s6, s7, s8, s9, s10, s11, s12, s13, s14, s15, s16, s17⟩
        go_simp
        with_reducible rfl
      rotate_left
      · simp only [Act.put, List.setIfInBounds_toArray, List.set_cons_zero, List.set_cons_succ, i64_w, i32_w]
        rfl
      refine take_ (i := 3) (N := some 45) (v := ?_) (a' := ?_) #[true, true, true, true, false, false, false, false, false, false, false, false, false, false, false, false, false, false, false, false, false, false, false, false, false, false, false, false, false, false, false, false, false, false, false, false, false, false, false, false, false, false, false, false, false, false, false, false, false, false, false, false] rfl rfl (by kernel_rfl) (fun _ _ _ h => h) (Or.inl ⟨by rfl, ?_⟩) hHeld ?_ ?_
      rotate_left
      · rintro w' ⟨s0, s1, s2, s3, s4, s5, s6, s7, s8, s9, s10, s11, s12, s13, s14, s15, s16, s17⟩
        go_simp
        with_reducible rfl
      rotate_left
      · simp only [Act.put, List.setIfInBounds_toArray, List.set_cons_zero, List.set_cons_succ, i64_w, i32_w]
        rfl
      refine take_ (i := 5) (N := some 47) (v := ?_) (a' := ?_) #[true, true, true, true, false, true, false, false, false, false, false, false, false, false, false, false, false, false, false, false, false, false, false, false, false, false, false, false, false, false, false, false, false, false, false, false, false, false, false, false, false, false, false, false, false, false, false, false, false, false, false, false] rfl rfl (by kernel_rfl) (fun _ _ _ h => h) (Or.inl ⟨by rfl, ?_⟩) hHeld ?_ ?_
      rotate_left
      · rintro w' ⟨s0, s1, s2, s3, s4, s5, s6, s7, s8, s9, s10, s11, s12, s13, s14, s15, s16, s17⟩
        go_simp
        with_reducible rfl
      rotate_left
      · simp only [Act.put, List.setIfInBounds_toArray, List.set_cons_zero, List.set_cons_succ, i64_w, i32_w]
        rfl
      refine one_ (i := 4) (N := some 46) #[true, true, true, true, true, true, false, false, false, false, false, false, false, false, false, false, false, false, false, false, false, false, false, false, false, false, false, false, false, false, false, false, false, false, false, false, false, false, false, false, false, false, false, false, false, false, false, false, false, false, false, false] rfl rfl (by kernel_rfl) (by decide) (fun K hK => ?_)
      refine goes_ Try.func22 (by kernel_rfl) rfl #[.agg #[.bool false, .slice P1 h1 p1, .slice P2 h1 p2], .agg #[.bool false, .slice P3 d1 p3, .slice P4 d1 p4]] (by rfl) rfl rfl (by simp only [List.map_toArray, List.map_cons, List.map_nil]; rfl) ?_
      with_reducible refine (join_at false false (K1.take h1) ((places q1).take h1) (K1.drop h1) ((places q1).drop h1) P1 P2 P3 P4 h1 p1 h1 p2 d1 p3 d1 p4 h1 d1 q1 _ (K14.out.rd 7 rfl) (K14.out.rd 6 rfl) (K14.out.rd 5 rfl) (K14.out.rd 4 rfl) (Nat.min_self _) (Nat.min_self _) HS.out.1 ⟨O3.out.lk, O3.out.lv⟩ ⟨fun h => (O3.out.nk h).2, fun h => (O3.out.nv h).2⟩ ⟨O4.out.lk, O4.out.lv⟩ ⟨fun h => (O4.out.nk h).2, fun h => (O4.out.nv h).2⟩ HS.out.2.1).mono ?_
      rintro e w15 ⟨E1, u1, E2, u2, rfl, ho, hb⟩
      refine ⟨_, rfl, ?_⟩
      rw [J1.out.1, J1.out.2] at ho
      have O15 := Lib.hid ho
      clear ho
      have K15 := Lib.hid (K14.out.below hb)
      have B15 := Lib.hid (below_then B14.out B14.out.size hb)
      clear hb
      refine hK.out _ _ ⟨cell_row (K15.out.row 5 rfl) rfl, cell_row (K15.out.row 5 rfl) rfl, cell_row (K15.out.row 5 rfl) rfl, cell_row (K15.out.row 4 rfl) rfl, cell_row (K15.out.row 4 rfl) rfl, cell_row (K15.out.row 4 rfl) rfl, cell_row (K15.out.row 3 rfl) rfl, cell_row (K15.out.row 3 rfl) rfl, cell_row (K15.out.row 3 rfl) rfl, cell_row (K15.out.row 2 rfl) rfl, cell_row (K15.out.row 2 rfl) rfl, cell_row (K15.out.row 2 rfl) rfl, cell_row (K15.out.row 1 rfl) rfl, cell_row (K15.out.row 1 rfl) rfl, cell_row (K15.out.row 1 rfl) rfl, cell_row (K15.out.row 0 rfl) rfl, cell_row (K15.out.row 0 rfl) rfl, cell_row (K15.out.row 0 rfl) rfl⟩ (fun hHeld => ?_)
      clear hK K
      refine norm_ (a' := ?_) ?_ ?_
      rotate_left
      · show Act.put _ (some 46) _ = _
        simp only [Act.put, List.setIfInBounds_toArray, List.set_cons_zero, List.set_cons_succ, i64_w, i32_w]
        rfl
      refine one_ (i := 6) (N := some 48) #[true, true, true, true, true, true, true, false, false, false, false, false, false, false, false, false, false, false, false, false, false, false, false, false, false, false, false, false, false, false, false, false, false, false, false, false, false, false, false, false, false, false, false, false, false, false, false, false, false, false, false, false] rfl rfl (by kernel_rfl) (by decide) (fun K hK => ?_)
      refine goes_ Try.func26 (by kernel_rfl) rfl #[.agg #[.bool false, .slice E1 q1 u1, .slice E2 q1 u2], .agg #[.bool false, .slice a1 q1 k1, .slice b1 q1 v1]] (by rfl) rfl rfl (by simp only [List.map_toArray, List.map_cons, List.map_nil]; rfl) ?_
      with_reducible refine (rsame_true false K1 (places q1) K1 (places q1) E1 E2 a1 b1 q1 u1 q1 u2 q1 k1 q1 v1 _ (mine_reads O15.out.k) (mine_reads O15.out.v) (K15.out.rd 11 rfl) (K15.out.rd 10 rfl) rfl rfl).mono ?_
      rintro e w16 ⟨rfl, hb⟩
      refine ⟨_, rfl, ?_⟩
      have K16 := Lib.hid (K15.out.below hb)
      have B16 := Lib.hid (below_then B15.out B15.out.size hb)
      clear hb
      refine hK.out _ _ ⟨cell_row (K16.out.row 5 rfl) rfl, cell_row (K16.out.row 5 rfl) rfl, cell_row (K16.out.row 5 rfl) rfl, cell_row (K16.out.row 4 rfl) rfl, cell_row (K16.out.row 4 rfl) rfl, cell_row (K16.out.row 4 rfl) rfl, cell_row (K16.out.row 3 rfl) rfl, cell_row (K16.out.row 3 rfl) rfl, cell_row (K16.out.row 3 rfl) rfl, cell_row (K16.out.row 2 rfl) rfl, cell_row (K16.out.row 2 rfl) rfl, cell_row (K16.out.row 2 rfl) rfl, cell_row (K16.out.row 1 rfl) rfl, cell_row (K16.out.row 1 rfl) rfl, cell_row (K16.out.row 1 rfl) rfl, cell_row (K16.out.row 0 rfl) rfl, cell_row (K16.out.row 0 rfl) rfl, cell_row (K16.out.row 0 rfl) rfl⟩ (fun hHeld => ?_)
      clear hK K
      refine norm_ (a' := ?_) ?_ ?_
      rotate_left
      · show Act.put _ (some 48) _ = _
        simp only [Act.put, List.setIfInBounds_toArray, List.set_cons_zero, List.set_cons_succ, i64_w, i32_w]
        rfl
      refine pure_ (i := 7) (N := some 49) (v := ?_) (a' := ?_) #[true, true, true, true, true, true, true, true, false, false, false, false, false, false, false, false, false, false, false, false, false, false, false, false, false, false, false, false, false, false, false, false, false, false, false, false, false, false, false, false, false, false, false, false, false, false, false, false, false, false, false, false] rfl rfl (by kernel_rfl) (fun _ _ _ h => h) (Or.inl ⟨by rfl, ?_⟩) ?_ ?_
      rotate_left
      · intro w'
        go_simp
        with_reducible rfl
      rotate_left
      · simp only [Act.put, List.setIfInBounds_toArray, List.set_cons_zero, List.set_cons_succ, i64_w, i32_w]
        rfl
      refine pure_ (i := 8) (N := some 50) (v := ?_) (a' := ?_) #[true, true, true, true, true, true, true, true, true, false, false, false, false, false, false, false, false, false, false, false, false, false, false, false, false, false, false, false, false, false, false, false, false, false, false, false, false, false, false, false, false, false, false, false, false, false, false, false, false, false, false, false] rfl rfl (by kernel_rfl) (fun _ _ _ h => h) (Or.inl ⟨by rfl, ?_⟩) ?_ ?_
      rotate_left
      · intro w'
        go_simp
        with_reducible rfl
      rotate_left
      · simp only [Act.put, List.setIfInBounds_toArray, List.set_cons_zero, List.set_cons_succ, i64_w, i32_w]
        rfl
      refine pure_ (i := 9) (N := some 51) (v := ?_) (a' := ?_) #[true, true, true, true, true, true, true, true, true, true, false, false, false, false, false, false, false, false, false, false, false, false, false, false, false, false, false, false, false, false, false, false, false, false, false, false, false, false, false, false, false, false, false, false, false, false, false, false, false, false, false, false] rfl rfl (by kernel_rfl) (fun _ _ _ h => h) (Or.inl ⟨by rfl, ?_⟩) ?_ ?_
      rotate_left
      · intro w'
        go_simp
        with_reducible rfl
      rotate_left
      · simp only [Act.put, List.setIfInBounds_toArray, List.set_cons_zero, List.set_cons_succ, i64_w, i32_w]
        rfl
      refine pure_ (i := 10) (N := some 52) (v := ?_) (a' := ?_) #[true, true, true, true, true, true, true, true, true, true, true, false, false, false, false, false, false, false, false, false, false, false, false, false, false, false, false, false, false, false, false, false, false, false, false, false, false, false, false, false, false, false, false, false, false, false, false, false, false, false, false, false] rfl rfl (by kernel_rfl) (fun _ _ _ h => h) (Or.inl ⟨by rfl, ?_⟩) ?_ ?_
      rotate_left
      · intro w'
        go_simp
        with_reducible rfl
      rotate_left
      · simp only [Act.put, List.setIfInBounds_toArray, List.set_cons_zero, List.set_cons_succ, i64_w, i32_w]
        rfl
      refine pure_ (i := 11) (N := some 53) (v := ?_) (a' := ?_) #[true, true, true, true, true, true, true, true, true, true, true, true, false, false, false, false, false, false, false, false, false, false, false, false, false, false, false, false, false, false, false, false, false, false, false, false, false, false, false, false, false, false, false, false, false, false, false, false, false, false, false, false] rfl rfl (by kernel_rfl) (fun _ _ _ h => h) (Or.inl ⟨by rfl, ?_⟩) ?_ ?_
      rotate_left
      · intro w'
        go_simp
        with_reducible rfl
      rotate_left
      · simp only [Act.put, List.setIfInBounds_toArray, List.set_cons_zero, List.set_cons_succ, i64_w, i32_w]
        rfl
      refine pure_ (i := 12) (N := some 54) (v := undef) (a' := ?_) #[true, true, true, true, true, true, true, true, true, true, true, true, true, false, false, false, false, false, false, false, false, false, false, false, false, false, false, false, false, false, false, false, false, false, false, false, false, false, false, false, false, false, false, false, false, false, false, false, false, false, false, false] rfl rfl (by kernel_rfl) (fun _ _ _ h => h) (Or.inr ⟨by rfl, rfl⟩) ?_ ?_
      rotate_left
      · simp only [Act.put, List.setIfInBounds_toArray, List.set_cons_zero, List.set_cons_succ, i64_w, i32_w]
        rfl
      refine pure_ (i := 13) (N := some 55) (v := undef) (a' := ?_) #[true, true, true, true, true, true, true, true, true, true, true, true, true, true, false, false, false, false, false, false, false, false, false, false, false, false, false, false, false, false, false, false, false, false, false, false, false, false, false, false, false, false, false, false, false, false, false, false, false, false, false, false] rfl rfl (by kernel_rfl) (fun _ _ _ h => h) (Or.inr ⟨by rfl, rfl⟩) ?_ ?_
      rotate_left
      · simp only [Act.put, List.setIfInBounds_toArray, List.set_cons_zero, List.set_cons_succ, i64_w, i32_w]
        rfl
      refine pure_ (i := 14) (N := some 56) (v := ?_) (a' := ?_) #[true, true, true, true, true, true, true, true, true, true, true, true, true, true, true, false, false, false, false, false, false, false, false, false, false, false, false, false, false, false, false, false, false, false, false, false, false, false, false, false, false, false, false, false, false, false, false, false, false, false, false, false] rfl rfl (by kernel_rfl) (fun _ _ _ h => h) (Or.inl ⟨by rfl, ?_⟩) ?_ ?_
      rotate_left
      · intro w'
        go_simp
        with_reducible rfl
      rotate_left
      · simp only [Act.put, List.setIfInBounds_toArray, List.set_cons_zero, List.set_cons_succ, i64_w, i32_w]
        rfl
      refine pure_ (i := 15) (N := some 57) (v := ?_) (a' := ?_) #[true, true, true, true, true, true, true, true, true, true, true, true, true, true, true, true, false, false, false, false, false, false, false, false, false, false, false, false, false, false, false, false, false, false, false, false, false, false, false, false, false, false, false, false, false, false, false, false, false, false, false, false] rfl rfl (by kernel_rfl) (fun _ _ _ h => h) (Or.inl ⟨by rfl, ?_⟩) ?_ ?_
      rotate_left
      · intro w'
        go_simp
        with_reducible rfl
      rotate_left
      · simp only [Act.put, List.setIfInBounds_toArray, List.set_cons_zero, List.set_cons_succ, i64_w, i32_w]
        rfl
      refine pure_ (i := 16) (N := some 58) (v := ?_) (a' := ?_) #[true, true, true, true, true, true, true, true, true, true, true, true, true, true, true, true, true, false, false, false, false, false, false, false, false, false, false, false, false, false, false, false, false, false, false, false, false, false, false, false, false, false, false, false, false, false, false, false, false, false, false, false] rfl rfl (by kernel_rfl) (fun _ _ _ h => h) (Or.inl ⟨by rfl, ?_⟩) ?_ ?_
      rotate_left
      · intro w'
        go_simp
        with_reducible rfl
      rotate_left
      · simp only [Act.put, List.setIfInBounds_toArray, List.set_cons_zero, List.set_cons_succ, i64_w, i32_w]
        rfl
      refine pure_ (i := 17) (N := some 59) (v := ?_) (a' := ?_) #[true, true, true, true, true, true, true, true, true, true, true, true, true, true, true, true, true, true, false, false, false, false, false, false, false, false, false, false, false, false, false, false, false, false, false, false, false, false, false, false, false, false, false, false, false, false, false, false, false, false, false, false] rfl rfl (by kernel_rfl) (fun _ _ _ h => h) (Or.inl ⟨by rfl, ?_⟩) ?_ ?_
      rotate_left
      · intro w'
        go_simp
        with_reducible rfl
      rotate_left
      · simp only [Act.put, List.setIfInBounds_toArray, List.set_cons_zero, List.set_cons_succ, i64_w, i32_w]
        rfl
      refine pure_ (i := 18) (N := some 60) (v := ?_) (a' := ?_) #[true, true, true, true, true, true, true, true, true, true, true, true, true, true, true, true, true, true, true, false, false, false, false, false, false, false, false, false, false, false, false, false, false, false, false, false, false, false, false, false, false, false, false, false, false, false, false, false, false, false, false, false] rfl rfl (by kernel_rfl) (fun _ _ _ h => h) (Or.inl ⟨by rfl, ?_⟩) ?_ ?_
      rotate_left
      · intro w'
        go_simp
        with_reducible rfl
      rotate_left
      · simp only [Act.put, List.setIfInBounds_toArray, List.set_cons_zero, List.set_cons_succ, i64_w, i32_w]
        rfl
      refine pure_ (i := 19) (N := some 61) (v := ?_) (a' := ?_) #[true, true, true, true, true, true, true, true, true, true, true, true, true, true, true, true, true, true, true, true, false, false, false, false, false, false, false, false, false, false, false, false, false, false, false, false, false, false, false, false, false, false, false, false, false, false, false, false, false, false, false, false] rfl rfl (by kernel_rfl) (fun _ _ _ h => h) (Or.inl ⟨by rfl, ?_⟩) ?_ ?_
      rotate_left
      · intro w'
        go_simp
        with_reducible rfl
      rotate_left
      · simp only [Act.put, List.setIfInBounds_toArray, List.set_cons_zero, List.set_cons_succ, i64_w, i32_w]
        rfl
      refine pure_ (i := 20) (N := some 62) (v := undef) (a' := ?_) #[true, true, true, true, true, true, true, true, true, true, true, true, true, true, true, true, true, true, true, true, true, false, false, false, false, false, false, false, false, false, false, false, false, false, false, false, false, false, false, false, false, false, false, false, false, false, false, false, false, false, false, false] rfl rfl (by kernel_rfl) (fun _ _ _ h => h) (Or.inr ⟨by rfl, rfl⟩) ?_ ?_
      rotate_left
      · simp only [Act.put, List.setIfInBounds_toArray, List.set_cons_zero, List.set_cons_succ, i64_w, i32_w]
        rfl
      refine pure_ (i := 21) (N := some 63) (v := undef) (a' := ?_) #[true, true, true, true, true, true, true, true, true, true, true, true, true, true, true, true, true, true, true, true, true, true, false, false, false, false, false, false, false, false, false, false, false, false, false, false, false, false, false, false, false, false, false, false, false, false, false, false, false, false, false, false] rfl rfl (by kernel_rfl) (fun _ _ _ h => h) (Or.inr ⟨by rfl, rfl⟩) ?_ ?_
      rotate_left
      · simp only [Act.put, List.setIfInBounds_toArray, List.set_cons_zero, List.set_cons_succ, i64_w, i32_w]
        rfl
      refine pure_ (i := 22) (N := some 64) (v := ?_) (a' := ?_) #[true, true, true, true, true, true, true, true, true, true, true, true, true, true, true, true, true, true, true, true, true, true, true, false, false, false, false, false, false, false, false, false, false, false, false, false, false, false, false, false, false, false, false, false, false, false, false, false, false, false, false, false] rfl rfl (by kernel_rfl) (fun _ _ _ h => h) (Or.inl ⟨by rfl, ?_⟩) ?_ ?_
      rotate_left
      · intro w'
        go_simp
        with_reducible rfl
      rotate_left
      · simp only [Act.put, List.setIfInBounds_toArray, List.set_cons_zero, List.set_cons_succ, i64_w, i32_w]
        rfl
      refine pure_ (i := 23) (N := some 65) (v := ?_) (a' := ?_) #[true, true, true, true, true, true, true, true, true, true, true, true, true, true, true, true, true, true, true, true, true, true, true, true, false, false, false, false, false, false, false, false, false, false, false, false, false, false, false, false, false, false, false, false, false, false, false, false, false, false, false, false] rfl rfl (by kernel_rfl) (fun _ _ _ h => h) (Or.inl ⟨by rfl, ?_⟩) ?_ ?_
      rotate_left
      · intro w'
        go_simp
        with_reducible rfl
      rotate_left
      · simp only [Act.put, List.setIfInBounds_toArray, List.set_cons_zero, List.set_cons_succ, i64_w, i32_w]
        rfl
      refine pure_ (i := 24) (N := some 66) (v := ?_) (a' := ?_) #[true, true, true, true, true, true, true, true, true, true, true, true, true, true, true, true, true, true, true, true, true, true, true, true, true, false, false, false, false, false, false, false, false, false, false, false, false, false, false, false, false, false, false, false, false, false, false, false, false, false, false, false] rfl rfl (by kernel_rfl) (fun _ _ _ h => h) (Or.inl ⟨by rfl, ?_⟩) ?_ ?_
      rotate_left
      · intro w'
        go_simp
        with_reducible rfl
      rotate_left
      · simp only [Act.put, List.setIfInBounds_toArray, List.set_cons_zero, List.set_cons_succ, i64_w, i32_w]
        rfl
      refine take_ (i := 25) (N := some 67) (v := ?_) (a' := ?_) #[true, true, true, true, true, true, true, true, true, true, true, true, true, true, true, true, true, true, true, true, true, true, true, true, true, true, false, false, false, false, false, false, false, false, false, false, false, false, false, false, false, false, false, false, false, false, false, false, false, false, false, false] rfl rfl (by kernel_rfl) (fun _ _ _ h => h) (Or.inl ⟨by rfl, ?_⟩) hHeld ?_ ?_
      rotate_left
      · rintro w' ⟨s0, s1, s2, s3, s4, s5, s6, s7, s8, s9, s10, s11, s12, s13, s14, s15, s16, s17⟩
        go_simp
        with_reducible rfl
      rotate_left
      · simp only [Act.put, List.setIfInBounds_toArray, List.set_cons_zero, List.set_cons_succ, i64_w, i32_w]
        rfl
      refine take_ (i := 26) (N := some 68) (v := ?_) (a' := ?_) #[true, true, true, true, true, true, true, true, true, true, true, true, true, true, true, true, true, true, true, true, true, true, true, true, true, true, true, false, false, false, false, false, false, false, false, false, false, false, false, false, false, false, false, false, false, false, false, false, false, false, false, false] rfl rfl (by kernel_rfl) (fun _ _ _ h => h) (Or.inl ⟨by rfl, ?_⟩) hHeld ?_ ?_
      rotate_left
      · rintro w' ⟨s0, s1, s2, s3, s4, s5, s6, s7, s8, s9, s10, s11, s12, s13, s14, s15, s16, s17⟩
        go_simp
        with_reducible rfl
      rotate_left
      · simp only [Act.put, List.setIfInBounds_toArray, List.set_cons_zero, List.set_cons_succ, i64_w, i32_w]
        rfl
      refine take_ (i := 28) (N := some 70) (v := ?_) (a' := ?_) #[true, true, true, true, true, true, true, true, true, true, true, true, true, true, true, true, true, true, true, true, true, true, true, true, true, true, true, false, true, false, false, false, false, false, false, false, false, false, false, false, false, false, false, false, false, false, false, false, false, false, false, false] rfl rfl (by kernel_rfl) (fun _ _ _ h => h) (Or.inl ⟨by rfl, ?_⟩) hHeld ?_ ?_
      rotate_left
      · rintro w' ⟨s0, s1, s2, s3, s4, s5, s6, s7, s8, s9, s10, s11, s12, s13, s14, s15, s16, s17⟩
        go_simp
        with_reducible rfl
      rotate_left
      · simp only [Act.put, List.setIfInBounds_toArray, List.set_cons_zero, List.set_cons_succ, i64_w, i32_w]
        rfl
      refine take_ (i := 29) (N := some 71) (v := ?_) (a' := ?_) #[true, true, true, true, true, true, true, true, true, true, true, true, true, true, true, true, true, true, true, true, true, true, true, true, true, true, true, false, true, true, false, false, false, false, false, false, false, false, false, false, false, false, false, false, false, false, false, false, false, false, false, false] rfl rfl (by kernel_rfl) (fun _ _ _ h => h) (Or.inl ⟨by rfl, ?_⟩) hHeld ?_ ?_
      rotate_left
      · rintro w' ⟨s0, s1, s2, s3, s4, s5, s6, s7, s8, s9, s10, s11, s12, s13, s14, s15, s16, s17⟩
        go_simp
        with_reducible rfl
      rotate_left
      · simp only [Act.put, List.setIfInBounds_toArray, List.set_cons_zero, List.set_cons_succ, i64_w, i32_w]
        rfl
      refine one_ (i := 27) (N := some 69) #[true, true, true, true, true, true, true, true, true, true, true, true, true, true, true, true, true, true, true, true, true, true, true, true, true, true, true, true, true, true, false, false, false, false, false, false, false, false, false, false, false, false, false, false, false, false, false, false, false, false, false, false] rfl rfl (by kernel_rfl) (by decide) (fun K hK => ?_)
      refine goes_ Try.func22 (by kernel_rfl) rfl #[.agg #[.bool false, .slice S1 h2 s1, .slice S2 h2 s2], .agg #[.bool false, .slice S3 d2 s3, .slice S4 d2 s4]] (by rfl) rfl rfl (by simp only [List.map_toArray, List.map_cons, List.map_nil]; rfl) ?_
      with_reducible refine (join_at false false ((K1 ++ K2).take h2) ((places q1 ++ places q2).take h2) ((K1 ++ K2).drop h2) ((places q1 ++ places q2).drop h2) S1 S2 S3 S4 h2 s1 h2 s2 d2 s3 d2 s4 h2 d2 (q1 + q2) _ (K16.out.rd 3 rfl) (K16.out.rd 2 rfl) (K16.out.rd 1 rfl) (K16.out.rd 0 rfl) (Nat.min_self _) (Nat.min_self _) HS.out.2.2.1 ⟨O5.out.lk, O5.out.lv⟩ ⟨fun h => (O5.out.nk h).2, fun h => (O5.out.nv h).2⟩ ⟨O6.out.lk, O6.out.lv⟩ ⟨fun h => (O6.out.nk h).2, fun h => (O6.out.nv h).2⟩ HS.out.2.2.2).mono ?_
      rintro e w17 ⟨F1, t1, F2, t2, rfl, ho, hb⟩
      refine ⟨_, rfl, ?_⟩
      rw [J2.out.1, J2.out.2] at ho
      have O17 := Lib.hid ho
      clear ho
      have K17 := Lib.hid (K16.out.below hb)
      have B17 := Lib.hid (below_then B16.out B16.out.size hb)
      clear hb
      refine hK.out _ _ ⟨cell_row (K17.out.row 5 rfl) rfl, cell_row (K17.out.row 5 rfl) rfl, cell_row (K17.out.row 5 rfl) rfl, cell_row (K17.out.row 4 rfl) rfl, cell_row (K17.out.row 4 rfl) rfl, cell_row (K17.out.row 4 rfl) rfl, cell_row (K17.out.row 3 rfl) rfl, cell_row (K17.out.row 3 rfl) rfl, cell_row (K17.out.row 3 rfl) rfl, cell_row (K17.out.row 2 rfl) rfl, cell_row (K17.out.row 2 rfl) rfl, cell_row (K17.out.row 2 rfl) rfl, cell_row (K17.out.row 1 rfl) rfl, cell_row (K17.out.row 1 rfl) rfl, cell_row (K17.out.row 1 rfl) rfl, cell_row (K17.out.row 0 rfl) rfl, cell_row (K17.out.row 0 rfl) rfl, cell_row (K17.out.row 0 rfl) rfl⟩ (fun hHeld => ?_)
      clear hK K
      refine norm_ (a' := ?_) ?_ ?_
      rotate_left
      · show Act.put _ (some 69) _ = _
        simp only [Act.put, List.setIfInBounds_toArray, List.set_cons_zero, List.set_cons_succ, i64_w, i32_w]
        rfl
      refine one_ (i := 30) (N := some 72) #[true, true, true, true, true, true, true, true, true, true, true, true, true, true, true, true, true, true, true, true, true, true, true, true, true, true, true, true, true, true, true, false, false, false, false, false, false, false, false, false, false, false, false, false, false, false, false, false, false, false, false, false] rfl rfl (by kernel_rfl) (by decide) (fun K hK => ?_)
      refine goes_ Try.func22 (by kernel_rfl) rfl #[.agg #[.bool false, .slice a1 q1 k1, .slice b1 q1 v1], .agg #[.bool false, .slice a2 q2 k2, .slice b2 q2 v2]] (by rfl) rfl rfl (by simp only [List.map_toArray, List.map_cons, List.map_nil]; rfl) ?_
      with_reducible refine (join_at false false K1 (places q1) K2 (places q2) a1 b1 a2 b2 q1 k1 q1 v1 q2 k2 q2 v2 q1 q2 (q1 + q2) _ (K17.out.rd 11 rfl) (K17.out.rd 10 rfl) (K17.out.rd 9 rfl) (K17.out.rd 8 rfl) (Nat.min_self _) (Nat.min_self _) rfl ⟨O1.out.lk, O1.out.lv⟩ ⟨fun h => (O1.out.nk h).2, fun h => (O1.out.nv h).2⟩ ⟨O2.out.lk, O2.out.lv⟩ ⟨fun h => (O2.out.nk h).2, fun h => (O2.out.nv h).2⟩ HS.out.2.2.2).mono ?_
      rintro e w18 ⟨G1, r1, G2, r2, rfl, ho, hb⟩
      refine ⟨_, rfl, ?_⟩
      rw [T1.out.1, T1.out.2, T2.out.1, T2.out.2] at ho
      have O18 := Lib.hid ho
      have O17b := Lib.hid (own2_below O17.out hb)
      clear ho
      have K18 := Lib.hid (K17.out.below hb)
      have B18 := Lib.hid (below_then B17.out B17.out.size hb)
      clear hb
      refine hK.out _ _ ⟨cell_row (K18.out.row 5 rfl) rfl, cell_row (K18.out.row 5 rfl) rfl, cell_row (K18.out.row 5 rfl) rfl, cell_row (K18.out.row 4 rfl) rfl, cell_row (K18.out.row 4 rfl) rfl, cell_row (K18.out.row 4 rfl) rfl, cell_row (K18.out.row 3 rfl) rfl, cell_row (K18.out.row 3 rfl) rfl, cell_row (K18.out.row 3 rfl) rfl, cell_row (K18.out.row 2 rfl) rfl, cell_row (K18.out.row 2 rfl) rfl, cell_row (K18.out.row 2 rfl) rfl, cell_row (K18.out.row 1 rfl) rfl, cell_row (K18.out.row 1 rfl) rfl, cell_row (K18.out.row 1 rfl) rfl, cell_row (K18.out.row 0 rfl) rfl, cell_row (K18.out.row 0 rfl) rfl, cell_row (K18.out.row 0 rfl) rfl⟩ (fun hHeld => ?_)
      clear hK K
      refine norm_ (a' := ?_) ?_ ?_
      rotate_left
      · show Act.put _ (some 72) _ = _
        simp only [Act.put, List.setIfInBounds_toArray, List.set_cons_zero, List.set_cons_succ, i64_w, i32_w]
        rfl
      refine one_ (i := 31) (N := some 73) #[true, true, true, true, true, true, true, true, true, true, true, true, true, true, true, true, true, true, true, true, true, true, true, true, true, true, true, true, true, true, true, true, false, false, false, false, false, false, false, false, false, false, false, false, false, false, false, false, false, false, false, false] rfl rfl (by kernel_rfl) (by decide) (fun K hK => ?_)
      refine goes_ Try.func26 (by kernel_rfl) rfl #[.agg #[.bool false, .slice F1 (q1 + q2) t1, .slice F2 (q1 + q2) t2], .agg #[.bool false, .slice G1 (q1 + q2) r1, .slice G2 (q1 + q2) r2]] (by rfl) rfl rfl (by simp only [List.map_toArray, List.map_cons, List.map_nil]; rfl) ?_
      with_reducible refine (rsame_true false (K1 ++ K2) (places q1 ++ places q2) (K1 ++ K2) (places q1 ++ places q2) F1 F2 G1 G2 (q1 + q2) t1 (q1 + q2) t2 (q1 + q2) r1 (q1 + q2) r2 _ (mine_reads O17b.out.k) (mine_reads O17b.out.v) (mine_reads O18.out.k) (mine_reads O18.out.v) rfl rfl).mono ?_
      rintro e w19 ⟨rfl, hb⟩
      refine ⟨_, rfl, ?_⟩
      have K19 := Lib.hid (K18.out.below hb)
      have B19 := Lib.hid (below_then B18.out B18.out.size hb)
      clear hb
      refine hK.out _ _ ⟨cell_row (K19.out.row 5 rfl) rfl, cell_row (K19.out.row 5 rfl) rfl, cell_row (K19.out.row 5 rfl) rfl, cell_row (K19.out.row 4 rfl) rfl, cell_row (K19.out.row 4 rfl) rfl, cell_row (K19.out.row 4 rfl) rfl, cell_row (K19.out.row 3 rfl) rfl, cell_row (K19.out.row 3 rfl) rfl, cell_row (K19.out.row 3 rfl) rfl, cell_row (K19.out.row 2 rfl) rfl, cell_row (K19.out.row 2 rfl) rfl, cell_row (K19.out.row 2 rfl) rfl, cell_row (K19.out.row 1 rfl) rfl, cell_row (K19.out.row 1 rfl) rfl, cell_row (K19.out.row 1 rfl) rfl, cell_row (K19.out.row 0 rfl) rfl, cell_row (K19.out.row 0 rfl) rfl, cell_row (K19.out.row 0 rfl) rfl⟩ (fun hHeld => ?_)
      clear hK K
      refine norm_ (a' := ?_) ?_ ?_
      rotate_left
      · show Act.put _ (some 73) _ = _
        simp only [Act.put, List.setIfInBounds_toArray, List.set_cons_zero, List.set_cons_succ, i64_w, i32_w]
        rfl
      refine pure_ (i := 32) (N := some 74) (v := ?_) (a' := ?_) #[true, true, true, true, true, true, true, true, true, true, true, true, true, true, true, true, true, true, true, true, true, true, true, true, true, true, true, true, true, true, true, true, true, false, false, false, false, false, false, false, false, false, false, false, false, false, false, false, false, false, false, false] rfl rfl (by kernel_rfl) (fun _ _ _ h => h) (Or.inl ⟨by rfl, ?_⟩) ?_ ?_
      rotate_left
      · intro w'
        go_simp
        with_reducible rfl
      rotate_left
      · simp only [Act.put, List.setIfInBounds_toArray, List.set_cons_zero, List.set_cons_succ, i64_w, i32_w]
        rfl
      refine pure_ (i := 33) (N := some 75) (v := ?_) (a' := ?_) #[true, true, true, true, true, true, true, true, true, true, true, true, true, true, true, true, true, true, true, true, true, true, true, true, true, true, true, true, true, true, true, true, true, true, false, false, false, false, false, false, false, false, false, false, false, false, false, false, false, false, false, false] rfl rfl (by kernel_rfl) (fun _ _ _ h => h) (Or.inl ⟨by rfl, ?_⟩) ?_ ?_
      rotate_left
      · intro w'
        go_simp
        with_reducible rfl
      rotate_left
      · simp only [Act.put, List.setIfInBounds_toArray, List.set_cons_zero, List.set_cons_succ, i64_w, i32_w]
        rfl
      refine pure_ (i := 34) (N := some 76) (v := ?_) (a' := ?_) #[true, true, true, true, true, true, true, true, true, true, true, true, true, true, true, true, true, true, true, true, true, true, true, true, true, true, true, true, true, true, true, true, true, true, true, false, false, false, false, false, false, false, false, false, false, false, false, false, false, false, false, false] rfl rfl (by kernel_rfl) (fun _ _ _ h => h) (Or.inl ⟨by rfl, ?_⟩) ?_ ?_
      rotate_left
      · intro w'
        go_simp
        with_reducible rfl
      rotate_left
      · simp only [Act.put, List.setIfInBounds_toArray, List.set_cons_zero, List.set_cons_succ, i64_w, i32_w]
        rfl
      refine pure_ (i := 37) (N := some 79) (v := ?_) (a' := ?_) #[true, true, true, true, true, true, true, true, true, true, true, true, true, true, true, true, true, true, true, true, true, true, true, true, true, true, true, true, true, true, true, true, true, true, true, false, false, true, false, false, false, false, false, false, false, false, false, false, false, false, false, false] rfl rfl (by kernel_rfl) (fun _ _ _ h => h) (Or.inl ⟨by rfl, ?_⟩) ?_ ?_
      rotate_left
      · intro w'
        go_simp
        with_reducible rfl
      rotate_left
      · simp only [Act.put, List.setIfInBounds_toArray, List.set_cons_zero, List.set_cons_succ, i64_w, i32_w]
        rfl
      refine take_ (i := 35) (N := some 77) (v := ?_) (a' := ?_) #[true, true, true, true, true, true, true, true, true, true, true, true, true, true, true, true, true, true, true, true, true, true, true, true, true, true, true, true, true, true, true, true, true, true, true, true, false, true, false, false, false, false, false, false, false, false, false, false, false, false, false, false] rfl rfl (by kernel_rfl) (fun _ _ _ h => h) (Or.inl ⟨by rfl, ?_⟩) hHeld ?_ ?_
      rotate_left
      · rintro w' ⟨s0, s1, s2, s3, s4, s5, s6, s7, s8, s9, s10, s11, s12, s13, s14, s15, s16, s17⟩
        go_simp
        with_reducible rfl
      rotate_left
      · simp only [Act.put, List.setIfInBounds_toArray, List.set_cons_zero, List.set_cons_succ, i64_w, i32_w]
        rfl
      refine pure_ (i := 36) (N := some 78) (v := ?_) (a' := ?_) #[true, true, true, true, true, true, true, true, true, true, true, true, true, true, true, true, true, true, true, true, true, true, true, true, true, true, true, true, true, true, true, true, true, true, true, true, true, true, false, false, false, false, false, false, false, false, false, false, false, false, false, false] rfl rfl (by kernel_rfl) (fun _ _ _ h => h) (Or.inl ⟨by rfl, ?_⟩) ?_ ?_
      rotate_left
      · intro w'
        go_simp
        with_reducible rfl
      rotate_left
      · simp only [Act.put, List.setIfInBounds_toArray, List.set_cons_zero, List.set_cons_succ, i64_w, i32_w]
        rfl
      refine take_ (i := 38) (N := some 80) (v := ?_) (a' := ?_) #[true, true, true, true, true, true, true, true, true, true, true, true, true, true, true, true, true, true, true, true, true, true, true, true, true, true, true, true, true, true, true, true, true, true, true, true, true, true, true, false, false, false, false, false, false, false, false, false, false, false, false, false] rfl rfl (by kernel_rfl) (fun _ _ _ h => h) (Or.inl ⟨by rfl, ?_⟩) hHeld ?_ ?_
      rotate_left
      · rintro w' ⟨s0, s1, s2, s3, s4, s5, s6, s7, s8, s9, s10, s11, s12, s13, s14, s15, s16, s17⟩
        go_simp
        with_reducible rfl
      rotate_left
      · simp only [Act.put, List.setIfInBounds_toArray, List.set_cons_zero, List.set_cons_succ, i64_w, i32_w]
        rfl
      refine pure_ (i := 39) (N := some 81) (v := ?_) (a' := ?_) #[true, true, true, true, true, true, true, true, true, true, true, true, true, true, true, true, true, true, true, true, true, true, true, true, true, true, true, true, true, true, true, true, true, true, true, true, true, true, true, true, false, false, false, false, false, false, false, false, false, false, false, false] rfl rfl (by kernel_rfl) (fun _ _ _ h => h) (Or.inl ⟨by rfl, ?_⟩) ?_ ?_
      rotate_left
      · intro w'
        go_simp
        with_reducible rfl
      rotate_left
      · simp only [Act.put, List.setIfInBounds_toArray, List.set_cons_zero, List.set_cons_succ, i64_w, i32_w]
        rfl
      refine pure_ (i := 40) (N := some 82) (v := ?_) (a' := ?_) #[true, true, true, true, true, true, true, true, true, true, true, true, true, true, true, true, true, true, true, true, true, true, true, true, true, true, true, true, true, true, true, true, true, true, true, true, true, true, true, true, true, false, false, false, false, false, false, false, false, false, false, false] rfl rfl (by kernel_rfl) (fun _ _ _ h => h) (Or.inl ⟨by rfl, ?_⟩) ?_ ?_
      rotate_left
      · intro w'
        go_simp
        with_reducible rfl
      rotate_left
      · simp only [Act.put, List.setIfInBounds_toArray, List.set_cons_zero, List.set_cons_succ, i64_w, i32_w]
        rfl
      refine pure_ (i := 41) (N := some 83) (v := ?_) (a' := ?_) #[true, true, true, true, true, true, true, true, true, true, true, true, true, true, true, true, true, true, true, true, true, true, true, true, true, true, true, true, true, true, true, true, true, true, true, true, true, true, true, true, true, true, false, false, false, false, false, false, false, false, false, false] rfl rfl (by kernel_rfl) (fun _ _ _ h => h) (Or.inl ⟨by rfl, ?_⟩) ?_ ?_
      rotate_left
      · intro w'
        go_simp
        with_reducible rfl
      rotate_left
      · simp only [Act.put, List.setIfInBounds_toArray, List.set_cons_zero, List.set_cons_succ, i64_w, i32_w]
        rfl
      refine pure_ (i := 42) (N := some 84) (v := ?_) (a' := ?_) #[true, true, true, true, true, true, true, true, true, true, true, true, true, true, true, true, true, true, true, true, true, true, true, true, true, true, true, true, true, true, true, true, true, true, true, true, true, true, true, true, true, true, true, false, false, false, false, false, false, false, false, false] rfl rfl (by kernel_rfl) (fun _ _ _ h => h) (Or.inl ⟨by rfl, ?_⟩) ?_ ?_
      rotate_left
      · intro w'
        go_simp
        with_reducible rfl
      rotate_left
      · simp only [Act.put, List.setIfInBounds_toArray, List.set_cons_zero, List.set_cons_succ, i64_w, i32_w]
        rfl
      refine pure_ (i := 43) (N := some 85) (v := ?_) (a' := ?_) #[true, true, true, true, true, true, true, true, true, true, true, true, true, true, true, true, true, true, true, true, true, true, true, true, true, true, true, true, true, true, true, true, true, true, true, true, true, true, true, true, true, true, true, true, false, false, false, false, false, false, false, false] rfl rfl (by kernel_rfl) (fun _ _ _ h => h) (Or.inl ⟨by rfl, ?_⟩) ?_ ?_
      rotate_left
      · intro w'
        go_simp
        with_reducible rfl
      rotate_left
      · simp only [Act.put, List.setIfInBounds_toArray, List.set_cons_zero, List.set_cons_succ, i64_w, i32_w]
        rfl
      refine pure_ (i := 46) (N := some 88) (v := ?_) (a' := ?_) #[true, true, true, true, true, true, true, true, true, true, true, true, true, true, true, true, true, true, true, true, true, true, true, true, true, true, true, true, true, true, true, true, true, true, true, true, true, true, true, true, true, true, true, true, false, false, true, false, false, false, false, false] rfl rfl (by kernel_rfl) (fun _ _ _ h => h) (Or.inl ⟨by rfl, ?_⟩) ?_ ?_
      rotate_left
      · intro w'
        go_simp
        with_reducible rfl
      rotate_left
      · simp only [Act.put, List.setIfInBounds_toArray, List.set_cons_zero, List.set_cons_succ, i64_w, i32_w]
        rfl
      refine take_ (i := 44) (N := some 86) (v := ?_) (a' := ?_) #[true, true, true, true, true, true, true, true, true, true, true, true, true, true, true, true, true, true, true, true, true, true, true, true, true, true, true, true, true, true, true, true, true, true, true, true, true, true, true, true, true, true, true, true, true, false, true, false, false, false, false, false] rfl rfl (by kernel_rfl) (fun _ _ _ h => h) (Or.inl ⟨by rfl, ?_⟩) hHeld ?_ ?_
      rotate_left
      · rintro w' ⟨s0, s1, s2, s3, s4, s5, s6, s7, s8, s9, s10, s11, s12, s13, s14, s15, s16, s17⟩
        go_simp
        with_reducible rfl
      rotate_left
      · simp only [Act.put, List.setIfInBounds_toArray, List.set_cons_zero, List.set_cons_succ, i64_w, i32_w]
        rfl
      refine pure_ (i := 45) (N := some 87) (v := ?_) (a' := ?_) #[true, true, true, true, true, true, true, true, true, true, true, true, true, true, true, true, true, true, true, true, true, true, true, true, true, true, true, true, true, true, true, true, true, true, true, true, true, true, true, true, true, true, true, true, true, true, true, false, false, false, false, false] rfl rfl (by kernel_rfl) (fun _ _ _ h => h) (Or.inl ⟨by rfl, ?_⟩) ?_ ?_
      rotate_left
      · intro w'
        go_simp
        with_reducible rfl
      rotate_left
      · simp only [Act.put, List.setIfInBounds_toArray, List.set_cons_zero, List.set_cons_succ, i64_w, i32_w]
        rfl
      refine take_ (i := 47) (N := some 89) (v := ?_) (a' := ?_) #[true, true, true, true, true, true, true, true, true, true, true, true, true, true, true, true, true, true, true, true, true, true, true, true, true, true, true, true, true, true, true, true, true, true, true, true, true, true, true, true, true, true, true, true, true, true, true, true, false, false, false, false] rfl rfl (by kernel_rfl) (fun _ _ _ h => h) (Or.inl ⟨by rfl, ?_⟩) hHeld ?_ ?_
      rotate_left
      · rintro w' ⟨s0, s1, s2, s3, s4, s5, s6, s7, s8, s9, s10, s11, s12, s13, s14, s15, s16, s17⟩
        go_simp
        with_reducible rfl
      rotate_left
      · simp only [Act.put, List.setIfInBounds_toArray, List.set_cons_zero, List.set_cons_succ, i64_w, i32_w]
        rfl
      refine pure_ (i := 48) (N := some 90) (v := ?_) (a' := ?_) #[true, true, true, true, true, true, true, true, true, true, true, true, true, true, true, true, true, true, true, true, true, true, true, true, true, true, true, true, true, true, true, true, true, true, true, true, true, true, true, true, true, true, true, true, true, true, true, true, true, false, false, false] rfl rfl (by kernel_rfl) (fun _ _ _ h => h) (Or.inl ⟨by rfl, ?_⟩) ?_ ?_
      rotate_left
      · intro w'
        go_simp
        with_reducible rfl
      rotate_left
      · simp only [Act.put, List.setIfInBounds_toArray, List.set_cons_zero, List.set_cons_succ, i64_w, i32_w]
        rfl
      refine pure_ (i := 49) (N := some 91) (v := ?_) (a' := ?_) #[true, true, true, true, true, true, true, true, true, true, true, true, true, true, true, true, true, true, true, true, true, true, true, true, true, true, true, true, true, true, true, true, true, true, true, true, true, true, true, true, true, true, true, true, true, true, true, true, true, true, false, false] rfl rfl (by kernel_rfl) (fun _ _ _ h => h) (Or.inl ⟨by rfl, ?_⟩) ?_ ?_
      rotate_left
      · intro w'
        go_simp
        with_reducible rfl
      rotate_left
      · simp only [Act.put, List.setIfInBounds_toArray, List.set_cons_zero, List.set_cons_succ, i64_w, i32_w]
        rfl
      refine pure_ (i := 50) (N := some 92) (v := ?_) (a' := ?_) #[true, true, true, true, true, true, true, true, true, true, true, true, true, true, true, true, true, true, true, true, true, true, true, true, true, true, true, true, true, true, true, true, true, true, true, true, true, true, true, true, true, true, true, true, true, true, true, true, true, true, true, false] rfl rfl (by kernel_rfl) (fun _ _ _ h => h) (Or.inl ⟨by rfl, ?_⟩) ?_ ?_
      rotate_left
      · intro w'
        go_simp
        with_reducible rfl
      rotate_left
      · simp only [Act.put, List.setIfInBounds_toArray, List.set_cons_zero, List.set_cons_succ, i64_w, i32_w]
        rfl
      refine pure_ (i := 51) (N := some 4) (v := ?_) (a' := ?_) #[true, true, true, true, true, true, true, true, true, true, true, true, true, true, true, true, true, true, true, true, true, true, true, true, true, true, true, true, true, true, true, true, true, true, true, true, true, true, true, true, true, true, true, true, true, true, true, true, true, true, true, true] rfl rfl (by kernel_rfl) (fun _ _ _ h => h) (Or.inl ⟨by rfl, ?_⟩) ?_ ?_
      rotate_left
      · intro w'
        go_simp
        with_reducible rfl
      rotate_left
      · simp only [Act.put, List.setIfInBounds_toArray, List.set_cons_zero, List.set_cons_succ, i64_w, i32_w]
        rfl
      refine done_ (by kernel_rfl) ?_
      clear hHeld
      go_wp2_with fail
      go_ret
      exact ⟨rfl, B19.out⟩
    · have e2 : (h2 : Int) - (d2 : Int) = 1 := by omega
      clear hx1 hx2
      go_quiet (fail)
      clear e1 e2 x7 x8 x9 x10
      have KD := Lib.hid ((K13.out.dn nq).drew)
      have BD := Lib.hid (below_drew (below_dn B13.out nq))
      go_wp2_with fail
      refine start_ (n := 52) (S := fun w' => w'.cell? ⟨w2.heap.size, 0, none⟩ = some (.bool false) ∧ w'.cell? ⟨w2.heap.size, 1, none⟩ = some (.slice a1 q1 k1) ∧ w'.cell? ⟨w2.heap.size, 2, none⟩ = some (.slice b1 q1 v1) ∧ w'.cell? ⟨ya.heap.size, 0, none⟩ = some (.bool false) ∧ w'.cell? ⟨ya.heap.size, 1, none⟩ = some (.slice a2 q2 k2) ∧ w'.cell? ⟨ya.heap.size, 2, none⟩ = some (.slice b2 q2 v2) ∧ w'.cell? ⟨w7.heap.size, 0, none⟩ = some (.bool false) ∧ w'.cell? ⟨w7.heap.size, 1, none⟩ = some (.slice P1 h1 p1) ∧ w'.cell? ⟨w7.heap.size, 2, none⟩ = some (.slice P2 h1 p2) ∧ w'.cell? ⟨za.heap.size, 0, none⟩ = some (.bool false) ∧ w'.cell? ⟨za.heap.size, 1, none⟩ = some (.slice P3 d1 p3) ∧ w'.cell? ⟨za.heap.size, 2, none⟩ = some (.slice P4 d1 p4) ∧ w'.cell? ⟨w12.heap.size, 0, none⟩ = some (.bool false) ∧ w'.cell? ⟨w12.heap.size, 1, none⟩ = some (.slice S1 h2 s1) ∧ w'.cell? ⟨w12.heap.size, 2, none⟩ = some (.slice S2 h2 s2) ∧ w'.cell? ⟨xa.heap.size, 0, none⟩ = some (.bool false) ∧ w'.cell? ⟨xa.heap.size, 1, none⟩ = some (.slice S3 d2 s3) ∧ w'.cell? ⟨xa.heap.size, 2, none⟩ = some (.slice S4 d2 s4)) (ds := []) #[false, false, false, false, false, false, false, false, false, false, false, false, false, false, false, false, false, false, false, false, false, false, false, false, false, false, false, false, false, false, false, false, false, false, false, false, false, false, false, false, false, false, false, false, false, false, false, false, false, false, false, false] (by kernel_rfl) rfl rfl ⟨cell_row (KD.out.row 5 rfl) rfl, cell_row (KD.out.row 5 rfl) rfl, cell_row (KD.out.row 5 rfl) rfl, cell_row (KD.out.row 4 rfl) rfl, cell_row (KD.out.row 4 rfl) rfl, cell_row (KD.out.row 4 rfl) rfl, cell_row (KD.out.row 3 rfl) rfl, cell_row (KD.out.row 3 rfl) rfl, cell_row (KD.out.row 3 rfl) rfl, cell_row (KD.out.row 2 rfl) rfl, cell_row (KD.out.row 2 rfl) rfl, cell_row (KD.out.row 2 rfl) rfl, cell_row (KD.out.row 1 rfl) rfl, cell_row (KD.out.row 1 rfl) rfl, cell_row (KD.out.row 1 rfl) rfl, cell_row (KD.out.row 0 rfl) rfl, cell_row (KD.out.row 0 rfl) rfl, cell_row (KD.out.row 0 rfl) rfl⟩ (fun hHeld => ?_)
      refine one_ (i := 0) (N := some 42) #[true, false, false, false, false, false, false, false, false, false, false, false, false, false, false, false, false, false, false, false, false, false, false, false, false, false, false, false, false, false, false, false, false, false, false, false, false, false, false, false, false, false, false, false, false, false, false, false, false, false, false, false] rfl rfl (by kernel_rfl) (by decide) (fun K hK => ?_)
      refine goes_ Try.func16 (by kernel_rfl) rfl #[] (by rfl) rfl rfl (by simp only [List.map_toArray, List.map_cons, List.map_nil]) ?_
      with_reducible refine (awake_any _).mono ?_
      rintro e w14 ⟨rfl, hb⟩
      refine ⟨_, rfl, ?_⟩
      have K14 := Lib.hid (KD.out.below hb)
      have B14 := Lib.hid (below_then BD.out BD.out.size hb)
      clear hb
      refine hK.out _ _ ⟨cell_row (K14.out.row 5 rfl) rfl, cell_row (K14.out.row 5 rfl) rfl, cell_row (K14.out.row 5 rfl) rfl, cell_row (K14.out.row 4 rfl) rfl, cell_row (K14.out.row 4 rfl) rfl, cell_row (K14.out.row 4 rfl) rfl, cell_row (K14.out.row 3 rfl) rfl, cell_row (K14.out.row 3 rfl) rfl, cell_row (K14.out.row 3 rfl) rfl, cell_row (K14.out.row 2 rfl) rfl, cell_row (K14.out.row 2 rfl) rfl, cell_row (K14.out.row 2 rfl) rfl, cell_row (K14.out.row 1 rfl) rfl, cell_row (K14.out.row 1 rfl) rfl, cell_row (K14.out.row 1 rfl) rfl, cell_row (K14.out.row 0 rfl) rfl, cell_row (K14.out.row 0 rfl) rfl, cell_row (K14.out.row 0 rfl) rfl⟩ (fun hHeld => ?_)
      clear hK K
      refine norm_ (a' := ?_) ?_ ?_
      rotate_left
      · show Act.put _ (some 42) _ = _
        simp only [Act.put, List.setIfInBounds_toArray, List.set_cons_zero, List.set_cons_succ, i64_w, i32_w]
        rfl
      refine pure_ (i := 1) (N := some 43) (v := ?_) (a' := ?_) #[true, true, false, false, false, false, false, false, false, false, false, false, false, false, false, false, false, false, false, false, false, false, false, false, false, false, false, false, false, false, false, false, false, false, false, false, false, false, false, false, false, false, false, false, false, false, false, false, false, false, false, false] rfl rfl (by kernel_rfl) (fun _ _ _ h => h) (Or.inl ⟨by rfl, ?_⟩) ?_ ?_
      rotate_left
      · intro w'
        go_simp
        with_reducible rfl
      rotate_left
      · simp only [Act.put, List.setIfInBounds_toArray, List.set_cons_zero, List.set_cons_succ, i64_w, i32_w]
        rfl
      refine take_ (i := 2) (N := some 44) (v := ?_) (a' := ?_) #[true, true, true, false, false, false, false, false, false, false, false, false, false, false, false, false, false, false, false, false, false, false, false, false, false, false, false, false, false, false, false, false, false, false, false, false, false, false, false, false, false, false, false, false, false, false, false, false, false, false, false, false] rfl rfl (by kernel_rfl) (fun _ _ _ h => h) (Or.inl ⟨by rfl, ?_⟩) hHeld ?_ ?_
      rotate_left
      · rintro w' ⟨s0, s1, s2, s3, s4, s5, s6, s7, s8, s9, s10, s11, s12, s13, s14, s15, s16, s17⟩
        go_simp
        with_reducible rfl
      rotate_left
      · simp only [Act.put, List.setIfInBounds_toArray, List.set_cons_zero, List.set_cons_succ, i64_w, i32_w]
        rfl
      refine take_ (i := 3) (N := some 45) (v := ?_) (a' := ?_) #[true, true, true, true, false, false, false, false, false, false, false, false, false, false, false, false, false, false, false, false, false, false, false, false, false, false, false, false, false, false, false, false, false, false, false, false, false, false, false, false, false, false, false, false, false, false, false, false, false, false, false, false] rfl rfl (by kernel_rfl) (fun _ _ _ h => h) (Or.inl ⟨by rfl, ?_⟩) hHeld ?_ ?_
      rotate_left
      · rintro w' ⟨s0, s1, s2, s3, s4, s5, s6, s7, s8, s9, s10, s11, s12, s13, s14, s15, s16, s17⟩
        go_simp
        with_reducible rfl
      rotate_left
      · simp only [Act.put, List.setIfInBounds_toArray, List.set_cons_zero, List.set_cons_succ, i64_w, i32_w]
        rfl
      refine take_ (i := 5) (N := some 47) (v := ?_) (a' := ?_) #[true, true, true, true, false, true, false, false, false, false, false, false, false, false, false, false, false, false, false, false, false, false, false, false, false, false, false, false, false, false, false, false, false, false, false, false, false, false, false, false, false, false, false, false, false, false, false, false, false, false, false, false] rfl rfl (by kernel_rfl) (fun _ _ _ h => h) (Or.inl ⟨by rfl, ?_⟩) hHeld ?_ ?_
      rotate_left
      · rintro w' ⟨s0, s1, s2, s3, s4, s5, s6, s7, s8, s9, s10, s11, s12, s13, s14, s15, s16, s17⟩
        go_simp
        with_reducible rfl
      rotate_left
      · simp only [Act.put, List.setIfInBounds_toArray, List.set_cons_zero, List.set_cons_succ, i64_w, i32_w]
        rfl
      refine one_ (i := 4) (N := some 46) #[true, true, true, true, true, true, false, false, false, false, false, false, false, false, false, false, false, false, false, false, false, false, false, false, false, false, false, false, false, false, false, false, false, false, false, false, false, false, false, false, false, false, false, false, false, false, false, false, false, false, false, false] rfl rfl (by kernel_rfl) (by decide) (fun K hK => ?_)
      refine goes_ Try.func22 (by kernel_rfl) rfl #[.agg #[.bool false, .slice P1 h1 p1, .slice P2 h1 p2], .agg #[.bool false, .slice P3 d1 p3, .slice P4 d1 p4]] (by rfl) rfl rfl (by simp only [List.map_toArray, List.map_cons, List.map_nil]; rfl) ?_
      with_reducible refine (join_at false false (K1.take h1) ((places q1).take h1) (K1.drop h1) ((places q1).drop h1) P1 P2 P3 P4 h1 p1 h1 p2 d1 p3 d1 p4 h1 d1 q1 _ (K14.out.rd 7 rfl) (K14.out.rd 6 rfl) (K14.out.rd 5 rfl) (K14.out.rd 4 rfl) (Nat.min_self _) (Nat.min_self _) HS.out.1 ⟨O3.out.lk, O3.out.lv⟩ ⟨fun h => (O3.out.nk h).2, fun h => (O3.out.nv h).2⟩ ⟨O4.out.lk, O4.out.lv⟩ ⟨fun h => (O4.out.nk h).2, fun h => (O4.out.nv h).2⟩ HS.out.2.1).mono ?_
      rintro e w15 ⟨E1, u1, E2, u2, rfl, ho, hb⟩
      refine ⟨_, rfl, ?_⟩
      rw [J1.out.1, J1.out.2] at ho
      have O15 := Lib.hid ho
      clear ho
      have K15 := Lib.hid (K14.out.below hb)
      have B15 := Lib.hid (below_then B14.out B14.out.size hb)
      clear hb
      refine hK.out _ _ ⟨cell_row (K15.out.row 5 rfl) rfl, cell_row (K15.out.row 5 rfl) rfl, cell_row (K15.out.row 5 rfl) rfl, cell_row (K15.out.row 4 rfl) rfl, cell_row (K15.out.row 4 rfl) rfl, cell_row (K15.out.row 4 rfl) rfl, cell_row (K15.out.row 3 rfl) rfl, cell_row (K15.out.row 3 rfl) rfl, cell_row (K15.out.row 3 rfl) rfl, cell_row (K15.out.row 2 rfl) rfl, cell_row (K15.out.row 2 rfl) rfl, cell_row (K15.out.row 2 rfl) rfl, cell_row (K15.out.row 1 rfl) rfl, cell_row (K15.out.row 1 rfl) rfl, cell_row (K15.out.row 1 rfl) rfl, cell_row (K15.out.row 0 rfl) rfl, cell_row (K15.out.row 0 rfl) rfl, cell_row (K15.out.row 0 rfl) rfl⟩ (fun hHeld => ?_)
      clear hK K
      refine norm_ (a' := ?_) ?_ ?_
      rotate_left
      · show Act.put _ (some 46) _ = _
        simp only [Act.put, List.setIfInBounds_toArray, List.set_cons_zero, List.set_cons_succ, i64_w, i32_w]
        rfl
      refine one_ (i := 6) (N := some 48) #[true, true, true, true, true, true, true, false, false, false, false, false, false, false, false, false, false, false, false, false, false, false, false, false, false, false, false, false, false, false, false, false, false, false, false, false, false, false, false, false, false, false, false, false, false, false, false, false, false, false, false, false] rfl rfl (by kernel_rfl) (by decide) (fun K hK => ?_)
      refine goes_ Try.func26 (by kernel_rfl) rfl #[.agg #[.bool false, .slice E1 q1 u1, .slice E2 q1 u2], .agg #[.bool false, .slice a1 q1 k1, .slice b1 q1 v1]] (by rfl) rfl rfl (by simp only [List.map_toArray, List.map_cons, List.map_nil]; rfl) ?_
      with_reducible refine (rsame_true false K1 (places q1) K1 (places q1) E1 E2 a1 b1 q1 u1 q1 u2 q1 k1 q1 v1 _ (mine_reads O15.out.k) (mine_reads O15.out.v) (K15.out.rd 11 rfl) (K15.out.rd 10 rfl) rfl rfl).mono ?_
      rintro e w16 ⟨rfl, hb⟩
      refine ⟨_, rfl, ?_⟩
      have K16 := Lib.hid (K15.out.below hb)
      have B16 := Lib.hid (below_then B15.out B15.out.size hb)
      clear hb
      refine hK.out _ _ ⟨cell_row (K16.out.row 5 rfl) rfl, cell_row (K16.out.row 5 rfl) rfl, cell_row (K16.out.row 5 rfl) rfl, cell_row (K16.out.row 4 rfl) rfl, cell_row (K16.out.row 4 rfl) rfl, cell_row (K16.out.row 4 rfl) rfl, cell_row (K16.out.row 3 rfl) rfl, cell_row (K16.out.row 3 rfl) rfl, cell_row (K16.out.row 3 rfl) rfl, cell_row (K16.out.row 2 rfl) rfl, cell_row (K16.out.row 2 rfl) rfl, cell_row (K16.out.row 2 rfl) rfl, cell_row (K16.out.row 1 rfl) rfl, cell_row (K16.out.row 1 rfl) rfl, cell_row (K16.out.row 1 rfl) rfl, cell_row (K16.out.row 0 rfl) rfl, cell_row (K16.out.row 0 rfl) rfl, cell_row (K16.out.row 0 rfl) rfl⟩ (fun hHeld => ?_)
      clear hK K
      refine norm_ (a' := ?_) ?_ ?_
      rotate_left
      · show Act.put _ (some 48) _ = _
        simp only [Act.put, List.setIfInBounds_toArray, List.set_cons_zero, List.set_cons_succ, i64_w, i32_w]
        rfl
      refine pure_ (i := 7) (N := some 49) (v := ?_) (a' := ?_) #[true, true, true, true, true, true, true, true, false, false, false, false, false, false, false, false, false, false, false, false, false, false, false, false, false, false, false, false, false, false, false, false, false, false, false, false, false, false, false, false, false, false, false, false, false, false, false, false, false, false, false, false] rfl rfl (by kernel_rfl) (fun _ _ _ h => h) (Or.inl ⟨by rfl, ?_⟩) ?_ ?_
      rotate_left
      · intro w'
        go_simp
        with_reducible rfl
      rotate_left
      · simp only [Act.put, List.setIfInBounds_toArray, List.set_cons_zero, List.set_cons_succ, i64_w, i32_w]
        rfl
      refine pure_ (i := 8) (N := some 50) (v := ?_) (a' := ?_) #[true, true, true, true, true, true, true, true, true, false, false, false, false, false, false, false, false, false, false, false, false, false, false, false, false, false, false, false, false, false, false, false, false, false, false, false, false, false, false, false, false, false, false, false, false, false, false, false, false, false, false, false] rfl rfl (by kernel_rfl) (fun _ _ _ h => h) (Or.inl ⟨by rfl, ?_⟩) ?_ ?_
      rotate_left
      · intro w'
        go_simp
        with_reducible rfl
      rotate_left
      · simp only [Act.put, List.setIfInBounds_toArray, List.set_cons_zero, List.set_cons_succ, i64_w, i32_w]
        rfl
      refine pure_ (i := 9) (N := some 51) (v := ?_) (a' := ?_) #[true, true, true, true, true, true, true, true, true, true, false, false, false, false, false, false, false, false, false, false, false, false, false, false, false, false, false, false, false, false, false, false, false, false, false, false, false, false, false, false, false, false, false, false, false, false, false, false, false, false, false, false] rfl rfl (by kernel_rfl) (fun _ _ _ h => h) (Or.inl ⟨by rfl, ?_⟩) ?_ ?_
      rotate_left
      · intro w'
        go_simp
        with_reducible rfl
      rotate_left
      · simp only [Act.put, List.setIfInBounds_toArray, List.set_cons_zero, List.set_cons_succ, i64_w, i32_w]
        rfl
      refine pure_ (i := 10) (N := some 52) (v := ?_) (a' := ?_) #[true, true, true, true, true, true, true, true, true, true, true, false, false, false, false, false, false, false, false, false, false, false, false, false, false, false, false, false, false, false, false, false, false, false, false, false, false, false, false, false, false, false, false, false, false, false, false, false, false, false, false, false] rfl rfl (by kernel_rfl) (fun _ _ _ h => h) (Or.inl ⟨by rfl, ?_⟩) ?_ ?_
      rotate_left
      · intro w'
        go_simp
        with_reducible rfl
      rotate_left
      · simp only [Act.put, List.setIfInBounds_toArray, List.set_cons_zero, List.set_cons_succ, i64_w, i32_w]
        rfl
      refine pure_ (i := 11) (N := some 53) (v := ?_) (a' := ?_) #[true, true, true, true, true, true, true, true, true, true, true, true, false, false, false, false, false, false, false, false, false, false, false, false, false, false, false, false, false, false, false, false, false, false, false, false, false, false, false, false, false, false, false, false, false, false, false, false, false, false, false, false] rfl rfl (by kernel_rfl) (fun _ _ _ h => h) (Or.inl ⟨by rfl, ?_⟩) ?_ ?_
      rotate_left
      · intro w'
        go_simp
        with_reducible rfl
      rotate_left
      · simp only [Act.put, List.setIfInBounds_toArray, List.set_cons_zero, List.set_cons_succ, i64_w, i32_w]
        rfl
      refine pure_ (i := 12) (N := some 54) (v := undef) (a' := ?_) #[true, true, true, true, true, true, true, true, true, true, true, true, true, false, false, false, false, false, false, false, false, false, false, false, false, false, false, false, false, false, false, false, false, false, false, false, false, false, false, false, false, false, false, false, false, false, false, false, false, false, false, false] rfl rfl (by kernel_rfl) (fun _ _ _ h => h) (Or.inr ⟨by rfl, rfl⟩) ?_ ?_
      rotate_left
      · simp only [Act.put, List.setIfInBounds_toArray, List.set_cons_zero, List.set_cons_succ, i64_w, i32_w]
        rfl
      refine pure_ (i := 13) (N := some 55) (v := undef) (a' := ?_) #[true, true, true, true, true, true, true, true, true, true, true, true, true, true, false, false, false, false, false, false, false, false, false, false, false, false, false, false, false, false, false, false, false, false, false, false, false, false, false, false, false, false, false, false, false, false, false, false, false, false, false, false] rfl rfl (by kernel_rfl) (fun _ _ _ h => h) (Or.inr ⟨by rfl, rfl⟩) ?_ ?_
      rotate_left
      · simp only [Act.put, List.setIfInBounds_toArray, List.set_cons_zero, List.set_cons_succ, i64_w, i32_w]
        rfl
      refine pure_ (i := 14) (N := some 56) (v := ?_) (a' := ?_) #[true, true, true, true, true, true, true, true, true, true, true, true, true, true, true, false, false, false, false, false, false, false, false, false, false, false, false, false, false, false, false, false, false, false, false, false, false, false, false, false, false, false, false, false, false, false, false, false, false, false, false, false] rfl rfl (by kernel_rfl) (fun _ _ _ h => h) (Or.inl ⟨by rfl, ?_⟩) ?_ ?_
      rotate_left
      · intro w'
        go_simp
        with_reducible rfl
      rotate_left
      · simp only [Act.put, List.setIfInBounds_toArray, List.set_cons_zero, List.set_cons_succ, i64_w, i32_w]
        rfl
      refine pure_ (i := 15) (N := some 57) (v := ?_) (a' := ?_) #[true, true, true, true, true, true, true, true, true, true, true, true, true, true, true, true, false, false, false, false, false, false, false, false, false, false, false, false, false, false, false, false, false, false, false, false, false, false, false, false, false, false, false, false, false, false, false, false, false, false, false, false] rfl rfl (by kernel_rfl) (fun _ _ _ h => h) (Or.inl ⟨by rfl, ?_⟩) ?_ ?_
      rotate_left
      · intro w'
        go_simp
        with_reducible rfl
      rotate_left
      · simp only [Act.put, List.setIfInBounds_toArray, List.set_cons_zero, List.set_cons_succ, i64_w, i32_w]
        rfl
      refine pure_ (i := 16) (N := some 58) (v := ?_) (a' := ?_) #[true, true, true, true, true, true, true, true, true, true, true, true, true, true, true, true, true, false, false, false, false, false, false, false, false, false, false, false, false, false, false, false, false, false, false, false, false, false, false, false, false, false, false, false, false, false, false, false, false, false, false, false] rfl rfl (by kernel_rfl) (fun _ _ _ h => h) (Or.inl ⟨by rfl, ?_⟩) ?_ ?_
      rotate_left
      · intro w'
        go_simp
        with_reducible rfl
      rotate_left
      · simp only [Act.put, List.setIfInBounds_toArray, List.set_cons_zero, List.set_cons_succ, i64_w, i32_w]
        rfl
      refine pure_ (i := 17) (N := some 59) (v := ?_) (a' := ?_) #[true, true, true, true, true, true, true, true, true, true, true, true, true, true, true, true, true, true, false, false, false, false, false, false, false, false, false, false, false, false, false, false, false, false, false, false, false, false, false, false, false, false, false, false, false, false, false, false, false, false, false, false] rfl rfl (by kernel_rfl) (fun _ _ _ h => h) (Or.inl ⟨by rfl, ?_⟩) ?_ ?_
      rotate_left
      · intro w'
        go_simp
        with_reducible rfl
      rotate_left
      · simp only [Act.put, List.setIfInBounds_toArray, List.set_cons_zero, List.set_cons_succ, i64_w, i32_w]
        rfl
      refine pure_ (i := 18) (N := some 60) (v := ?_) (a' := ?_) #[true, true, true, true, true, true, true, true, true, true, true, true, true, true, true, true, true, true, true, false, false, false, false, false, false, false, false, false, false, false, false, false, false, false, false, false, false, false, false, false, false, false, false, false, false, false, false, false, false, false, false, false] rfl rfl (by kernel_rfl) (fun _ _ _ h => h) (Or.inl ⟨by rfl, ?_⟩) ?_ ?_
      rotate_left
      · intro w'
        go_simp
        with_reducible rfl
      rotate_left
      · simp only [Act.put, List.setIfInBounds_toArray, List.set_cons_zero, List.set_cons_succ, i64_w, i32_w]
        rfl
      refine pure_ (i := 19) (N := some 61) (v := ?_) (a' := ?_) #[true, true, true, true, true, true, true, true, true, true, true, true, true, true, true, true, true, true, true, true, false, false, false, false, false, false, false, false, false, false, false, false, false, false, false, false, false, false, false, false, false, false, false, false, false, false, false, false, false, false, false, false] rfl rfl (by kernel_rfl) (fun _ _ _ h => h) (Or.inl ⟨by rfl, ?_⟩) ?_ ?_
      rotate_left
      · intro w'
        go_simp
        with_reducible rfl
      rotate_left
      · simp only [Act.put, List.setIfInBounds_toArray, List.set_cons_zero, List.set_cons_succ, i64_w, i32_w]
        rfl
      refine pure_ (i := 20) (N := some 62) (v := ?_) (a' := ?_) #[true, true, true, true, true, true, true, true, true, true, true, true, true, true, true, true, true, true, true, true, true, false, false, false, false, false, false, false, false, false, false, false, false, false, false, false, false, false, false, false, false, false, false, false, false, false, false, false, false, false, false, false] rfl rfl (by kernel_rfl) (fun _ _ _ h => h) (Or.inl ⟨by rfl, ?_⟩) ?_ ?_
      rotate_left
      · intro w'
        go_simp
        with_reducible rfl
      rotate_left
      · simp only [Act.put, List.setIfInBounds_toArray, List.set_cons_zero, List.set_cons_succ, i64_w, i32_w]
        rfl
      refine pure_ (i := 21) (N := some 63) (v := ?_) (a' := ?_) #[true, true, true, true, true, true, true, true, true, true, true, true, true, true, true, true, true, true, true, true, true, true, false, false, false, false, false, false, false, false, false, false, false, false, false, false, false, false, false, false, false, false, false, false, false, false, false, false, false, false, false, false] rfl rfl (by kernel_rfl) (fun _ _ _ h => h) (Or.inl ⟨by rfl, ?_⟩) ?_ ?_
      rotate_left
      · intro w'
        go_simp
        with_reducible rfl
      rotate_left
      · simp only [Act.put, List.setIfInBounds_toArray, List.set_cons_zero, List.set_cons_succ, i64_w, i32_w]
        rfl
      refine pure_ (i := 22) (N := some 64) (v := ?_) (a' := ?_) #[true, true, true, true, true, true, true, true, true, true, true, true, true, true, true, true, true, true, true, true, true, true, true, false, false, false, false, false, false, false, false, false, false, false, false, false, false, false, false, false, false, false, false, false, false, false, false, false, false, false, false, false] rfl rfl (by kernel_rfl) (fun _ _ _ h => h) (Or.inl ⟨by rfl, ?_⟩) ?_ ?_
      rotate_left
      · intro w'
        go_simp
        with_reducible rfl
      rotate_left
      · simp only [Act.put, List.setIfInBounds_toArray, List.set_cons_zero, List.set_cons_succ, i64_w, i32_w]
        rfl
      refine pure_ (i := 23) (N := some 65) (v := ?_) (a' := ?_) #[true, true, true, true, true, true, true, true, true, true, true, true, true, true, true, true, true, true, true, true, true, true, true, true, false, false, false, false, false, false, false, false, false, false, false, false, false, false, false, false, false, false, false, false, false, false, false, false, false, false, false, false] rfl rfl (by kernel_rfl) (fun _ _ _ h => h) (Or.inl ⟨by rfl, ?_⟩) ?_ ?_
      rotate_left
      · intro w'
        go_simp
        with_reducible rfl
      rotate_left
      · simp only [Act.put, List.setIfInBounds_toArray, List.set_cons_zero, List.set_cons_succ, i64_w, i32_w]
        rfl
      refine pure_ (i := 24) (N := some 66) (v := ?_) (a' := ?_) #[true, true, true, true, true, true, true, true, true, true, true, true, true, true, true, true, true, true, true, true, true, true, true, true, true, false, false, false, false, false, false, false, false, false, false, false, false, false, false, false, false, false, false, false, false, false, false, false, false, false, false, false] rfl rfl (by kernel_rfl) (fun _ _ _ h => h) (Or.inl ⟨by rfl, ?_⟩) ?_ ?_
      rotate_left
      · intro w'
        go_simp
        with_reducible rfl
      rotate_left
      · simp only [Act.put, List.setIfInBounds_toArray, List.set_cons_zero, List.set_cons_succ, i64_w, i32_w]
        rfl
      refine take_ (i := 25) (N := some 67) (v := ?_) (a' := ?_) #[true, true, true, true, true, true, true, true, true, true, true, true, true, true, true, true, true, true, true, true, true, true, true, true, true, true, false, false, false, false, false, false, false, false, false, false, false, false, false, false, false, false, false, false, false, false, false, false, false, false, false, false] rfl rfl (by kernel_rfl) (fun _ _ _ h => h) (Or.inl ⟨by rfl, ?_⟩) hHeld ?_ ?_
      rotate_left
      · rintro w' ⟨s0, s1, s2, s3, s4, s5, s6, s7, s8, s9, s10, s11, s12, s13, s14, s15, s16, s17⟩
        go_simp
        with_reducible rfl
      rotate_left
      · simp only [Act.put, List.setIfInBounds_toArray, List.set_cons_zero, List.set_cons_succ, i64_w, i32_w]
        rfl
      refine take_ (i := 26) (N := some 68) (v := ?_) (a' := ?_) #[true, true, true, true, true, true, true, true, true, true, true, true, true, true, true, true, true, true, true, true, true, true, true, true, true, true, true, false, false, false, false, false, false, false, false, false, false, false, false, false, false, false, false, false, false, false, false, false, false, false, false, false] rfl rfl (by kernel_rfl) (fun _ _ _ h => h) (Or.inl ⟨by rfl, ?_⟩) hHeld ?_ ?_
      rotate_left
      · rintro w' ⟨s0, s1, s2, s3, s4, s5, s6, s7, s8, s9, s10, s11, s12, s13, s14, s15, s16, s17⟩
        go_simp
        with_reducible rfl
      rotate_left
      · simp only [Act.put, List.setIfInBounds_toArray, List.set_cons_zero, List.set_cons_succ, i64_w, i32_w]
        rfl
      refine take_ (i := 28) (N := some 70) (v := ?_) (a' := ?_) #[true, true, true, true, true, true, true, true, true, true, true, true, true, true, true, true, true, true, true, true, true, true, true, true, true, true, true, false, true, false, false, false, false, false, false, false, false, false, false, false, false, false, false, false, false, false, false, false, false, false, false, false] rfl rfl (by kernel_rfl) (fun _ _ _ h => h) (Or.inl ⟨by rfl, ?_⟩) hHeld ?_ ?_
      rotate_left
      · rintro w' ⟨s0, s1, s2, s3, s4, s5, s6, s7, s8, s9, s10, s11, s12, s13, s14, s15, s16, s17⟩
        go_simp
        with_reducible rfl
      rotate_left
      · simp only [Act.put, List.setIfInBounds_toArray, List.set_cons_zero, List.set_cons_succ, i64_w, i32_w]
        rfl
      refine take_ (i := 29) (N := some 71) (v := ?_) (a' := ?_) #[true, true, true, true, true, true, true, true, true, true, true, true, true, true, true, true, true, true, true, true, true, true, true, true, true, true, true, false, true, true, false, false, false, false, false, false, false, false, false, false, false, false, false, false, false, false, false, false, false, false, false, false] rfl rfl (by kernel_rfl) (fun _ _ _ h => h) (Or.inl ⟨by rfl, ?_⟩) hHeld ?_ ?_
      rotate_left
      · rintro w' ⟨s0, s1, s2, s3, s4, s5, s6, s7, s8, s9, s10, s11, s12, s13, s14, s15, s16, s17⟩
        go_simp
        with_reducible rfl
      rotate_left
      · simp only [Act.put, List.setIfInBounds_toArray, List.set_cons_zero, List.set_cons_succ, i64_w, i32_w]
        rfl
      refine one_ (i := 27) (N := some 69) #[true, true, true, true, true, true, true, true, true, true, true, true, true, true, true, true, true, true, true, true, true, true, true, true, true, true, true, true, true, true, false, false, false, false, false, false, false, false, false, false, false, false, false, false, false, false, false, false, false, false, false, false] rfl rfl (by kernel_rfl) (by decide) (fun K hK => ?_)
      refine goes_ Try.func22 (by kernel_rfl) rfl #[.agg #[.bool false, .slice S1 h2 s1, .slice S2 h2 s2], .agg #[.bool false, .slice S3 d2 s3, .slice S4 d2 s4]] (by rfl) rfl rfl (by simp only [List.map_toArray, List.map_cons, List.map_nil]; rfl) ?_
      with_reducible refine (join_at false false ((K1 ++ K2).take h2) ((places q1 ++ places q2).take h2) ((K1 ++ K2).drop h2) ((places q1 ++ places q2).drop h2) S1 S2 S3 S4 h2 s1 h2 s2 d2 s3 d2 s4 h2 d2 (q1 + q2) _ (K16.out.rd 3 rfl) (K16.out.rd 2 rfl) (K16.out.rd 1 rfl) (K16.out.rd 0 rfl) (Nat.min_self _) (Nat.min_self _) HS.out.2.2.1 ⟨O5.out.lk, O5.out.lv⟩ ⟨fun h => (O5.out.nk h).2, fun h => (O5.out.nv h).2⟩ ⟨O6.out.lk, O6.out.lv⟩ ⟨fun h => (O6.out.nk h).2, fun h => (O6.out.nv h).2⟩ HS.out.2.2.2).mono ?_
      rintro e w17 ⟨F1, t1, F2, t2, rfl, ho, hb⟩
      refine ⟨_, rfl, ?_⟩
      rw [J2.out.1, J2.out.2] at ho
      have O17 := Lib.hid ho
      clear ho
      have K17 := Lib.hid (K16.out.below hb)
      have B17 := Lib.hid (below_then B16.out B16.out.size hb)
      clear hb
      refine hK.out _ _ ⟨cell_row (K17.out.row 5 rfl) rfl, cell_row (K17.out.row 5 rfl) rfl, cell_row (K17.out.row 5 rfl) rfl, cell_row (K17.out.row 4 rfl) rfl, cell_row (K17.out.row 4 rfl) rfl, cell_row (K17.out.row 4 rfl) rfl, cell_row (K17.out.row 3 rfl) rfl, cell_row (K17.out.row 3 rfl) rfl, cell_row (K17.out.row 3 rfl) rfl, cell_row (K17.out.row 2 rfl) rfl, cell_row (K17.out.row 2 rfl) rfl, cell_row (K17.out.row 2 rfl) rfl, cell_row (K17.out.row 1 rfl) rfl, cell_row (K17.out.row 1 rfl) rfl, cell_row (K17.out.row 1 rfl) rfl, cell_row (K17.out.row 0 rfl) rfl, cell_row (K17.out.row 0 rfl) rfl, cell_row (K17.out.row 0 rfl) rfl⟩ (fun hHeld => ?_)
      clear hK K
      refine norm_ (a' := ?_) ?_ ?_
      rotate_left
      · show Act.put _ (some 69) _ = _
        simp only [Act.put, List.setIfInBounds_toArray, List.set_cons_zero, List.set_cons_succ, i64_w, i32_w]
        rfl
      refine one_ (i := 30) (N := some 72) #[true, true, true, true, true, true, true, true, true, true, true, true, true, true, true, true, true, true, true, true, true, true, true, true, true, true, true, true, true, true, true, false, false, false, false, false, false, false, false, false, false, false, false, false, false, false, false, false, false, false, false, false] rfl rfl (by kernel_rfl) (by decide) (fun K hK => ?_)
      refine goes_ Try.func22 (by kernel_rfl) rfl #[.agg #[.bool false, .slice a1 q1 k1, .slice b1 q1 v1], .agg #[.bool false, .slice a2 q2 k2, .slice b2 q2 v2]] (by rfl) rfl rfl (by simp only [List.map_toArray, List.map_cons, List.map_nil]; rfl) ?_
      with_reducible refine (join_at false false K1 (places q1) K2 (places q2) a1 b1 a2 b2 q1 k1 q1 v1 q2 k2 q2 v2 q1 q2 (q1 + q2) _ (K17.out.rd 11 rfl) (K17.out.rd 10 rfl) (K17.out.rd 9 rfl) (K17.out.rd 8 rfl) (Nat.min_self _) (Nat.min_self _) rfl ⟨O1.out.lk, O1.out.lv⟩ ⟨fun h => (O1.out.nk h).2, fun h => (O1.out.nv h).2⟩ ⟨O2.out.lk, O2.out.lv⟩ ⟨fun h => (O2.out.nk h).2, fun h => (O2.out.nv h).2⟩ HS.out.2.2.2).mono ?_
      rintro e w18 ⟨G1, r1, G2, r2, rfl, ho, hb⟩
      refine ⟨_, rfl, ?_⟩
      rw [T1.out.1, T1.out.2, T2.out.1, T2.out.2] at ho
      have O18 := Lib.hid ho
      have O17b := Lib.hid (own2_below O17.out hb)
      clear ho
      have K18 := Lib.hid (K17.out.below hb)
      have B18 := Lib.hid (below_then B17.out B17.out.size hb)
      clear hb
      refine hK.out _ _ ⟨cell_row (K18.out.row 5 rfl) rfl, cell_row (K18.out.row 5 rfl) rfl, cell_row (K18.out.row 5 rfl) rfl, cell_row (K18.out.row 4 rfl) rfl, cell_row (K18.out.row 4 rfl) rfl, cell_row (K18.out.row 4 rfl) rfl, cell_row (K18.out.row 3 rfl) rfl, cell_row (K18.out.row 3 rfl) rfl, cell_row (K18.out.row 3 rfl) rfl, cell_row (K18.out.row 2 rfl) rfl, cell_row (K18.out.row 2 rfl) rfl, cell_row (K18.out.row 2 rfl) rfl, cell_row (K18.out.row 1 rfl) rfl, cell_row (K18.out.row 1 rfl) rfl, cell_row (K18.out.row 1 rfl) rfl, cell_row (K18.out.row 0 rfl) rfl, cell_row (K18.out.row 0 rfl) rfl, cell_row (K18.out.row 0 rfl) rfl⟩ (fun hHeld => ?_)
      clear hK K
      refine norm_ (a' := ?_) ?_ ?_
      rotate_left
      · show Act.put _ (some 72) _ = _
        simp only [Act.put, List.setIfInBounds_toArray, List.set_cons_zero, List.set_cons_succ, i64_w, i32_w]
        rfl
      refine one_ (i := 31) (N := some 73) #[true, true, true, true, true, true, true, true, true, true, true, true, true, true, true, true, true, true, true, true, true, true, true, true, true, true, true, true, true, true, true, true, false, false, false, false, false, false, false, false, false, false, false, false, false, false, false, false, false, false, false, false] rfl rfl (by kernel_rfl) (by decide) (fun K hK => ?_)
      refine goes_ Try.func26 (by kernel_rfl) rfl #[.agg #[.bool false, .slice F1 (q1 + q2) t1, .slice F2 (q1 + q2) t2], .agg #[.bool false, .slice G1 (q1 + q2) r1, .slice G2 (q1 + q2) r2]] (by rfl) rfl rfl (by simp only [List.map_toArray, List.map_cons, List.map_nil]; rfl) ?_
      with_reducible refine (rsame_true false (K1 ++ K2) (places q1 ++ places q2) (K1 ++ K2) (places q1 ++ places q2) F1 F2 G1 G2 (q1 + q2) t1 (q1 + q2) t2 (q1 + q2) r1 (q1 + q2) r2 _ (mine_reads O17b.out.k) (mine_reads O17b.out.v) (mine_reads O18.out.k) (mine_reads O18.out.v) rfl rfl).mono ?_
      rintro e w19 ⟨rfl, hb⟩
      refine ⟨_, rfl, ?_⟩
      have K19 := Lib.hid (K18.out.below hb)
      have B19 := Lib.hid (below_then B18.out B18.out.size hb)
      clear hb
      refine hK.out _ _ ⟨cell_row (K19.out.row 5 rfl) rfl, cell_row (K19.out.row 5 rfl) rfl, cell_row (K19.out.row 5 rfl) rfl, cell_row (K19.out.row 4 rfl) rfl, cell_row (K19.out.row 4 rfl) rfl, cell_row (K19.out.row 4 rfl) rfl, cell_row (K19.out.row 3 rfl) rfl, cell_row (K19.out.row 3 rfl) rfl, cell_row (K19.out.row 3 rfl) rfl, cell_row (K19.out.row 2 rfl) rfl, cell_row (K19.out.row 2 rfl) rfl, cell_row (K19.out.row 2 rfl) rfl, cell_row (K19.out.row 1 rfl) rfl, cell_row (K19.out.row 1 rfl) rfl, cell_row (K19.out.row 1 rfl) rfl, cell_row (K19.out.row 0 rfl) rfl, cell_row (K19.out.row 0 rfl) rfl, cell_row (K19.out.row 0 rfl) rfl⟩ (fun hHeld => ?_)
      clear hK K
      refine norm_ (a' := ?_) ?_ ?_
      rotate_left
      · show Act.put _ (some 73) _ = _
        simp only [Act.put, List.setIfInBounds_toArray, List.set_cons_zero, List.set_cons_succ, i64_w, i32_w]
        rfl
      refine pure_ (i := 32) (N := some 74) (v := ?_) (a' := ?_) #[true, true, true, true, true, true, true, true, true, true, true, true, true, true, true, true, true, true, true, true, true, true, true, true, true, true, true, true, true, true, true, true, true, false, false, false, false, false, false, false, false, false, false, false, false, false, false, false, false, false, false, false] rfl rfl (by kernel_rfl) (fun _ _ _ h => h) (Or.inl ⟨by rfl, ?_⟩) ?_ ?_
      rotate_left
      · intro w'
        go_simp
        with_reducible rfl
      rotate_left
      · simp only [Act.put, List.setIfInBounds_toArray, List.set_cons_zero, List.set_cons_succ, i64_w, i32_w]
        rfl
      refine pure_ (i := 33) (N := some 75) (v := ?_) (a' := ?_) #[true, true, true, true, true, true, true, true, true, true, true, true, true, true, true, true, true, true, true, true, true, true, true, true, true, true, true, true, true, true, true, true, true, true, false, false, false, false, false, false, false, false, false, false, false, false, false, false, false, false, false, false] rfl rfl (by kernel_rfl) (fun _ _ _ h => h) (Or.inl ⟨by rfl, ?_⟩) ?_ ?_
      rotate_left
      · intro w'
        go_simp
        with_reducible rfl
      rotate_left
      · simp only [Act.put, List.setIfInBounds_toArray, List.set_cons_zero, List.set_cons_succ, i64_w, i32_w]
        rfl
      refine pure_ (i := 34) (N := some 76) (v := ?_) (a' := ?_) #[true, true, true, true, true, true, true, true, true, true, true, true, true, true, true, true, true, true, true, true, true, true, true, true, true, true, true, true, true, true, true, true, true, true, true, false, false, false, false, false, false, false, false, false, false, false, false, false, false, false, false, false] rfl rfl (by kernel_rfl) (fun _ _ _ h => h) (Or.inl ⟨by rfl, ?_⟩) ?_ ?_
      rotate_left
      · intro w'
        go_simp
        with_reducible rfl
      rotate_left
      · simp only [Act.put, List.setIfInBounds_toArray, List.set_cons_zero, List.set_cons_succ, i64_w, i32_w]
        rfl
      refine pure_ (i := 37) (N := some 79) (v := ?_) (a' := ?_) #[true, true, true, true, true, true, true, true, true, true, true, true, true, true, true, true, true, true, true, true, true, true, true, true, true, true, true, true, true, true, true, true, true, true, true, false, false, true, false, false, false, false, false, false, false, false, false, false, false, false, false, false] rfl rfl (by kernel_rfl) (fun _ _ _ h => h) (Or.inl ⟨by rfl, ?_⟩) ?_ ?_
      rotate_left
      · intro w'
        go_simp
        with_reducible rfl
      rotate_left
      · simp only [Act.put, List.setIfInBounds_toArray, List.set_cons_zero, List.set_cons_succ, i64_w, i32_w]
        rfl
      refine take_ (i := 35) (N := some 77) (v := ?_) (a' := ?_) #[true, true, true, true, true, true, true, true, true, true, true, true, true, true, true, true, true, true, true, true, true, true, true, true, true, true, true, true, true, true, true, true, true, true, true, true, false, true, false, false, false, false, false, false, false, false, false, false, false, false, false, false] rfl rfl (by kernel_rfl) (fun _ _ _ h => h) (Or.inl ⟨by rfl, ?_⟩) hHeld ?_ ?_
      rotate_left
      · rintro w' ⟨s0, s1, s2, s3, s4, s5, s6, s7, s8, s9, s10, s11, s12, s13, s14, s15, s16, s17⟩
        go_simp
        with_reducible rfl
      rotate_left
      · simp only [Act.put, List.setIfInBounds_toArray, List.set_cons_zero, List.set_cons_succ, i64_w, i32_w]
        rfl
      refine pure_ (i := 36) (N := some 78) (v := ?_) (a' := ?_) #[true, true, true, true, true, true, true, true, true, true, true, true, true, true, true, true, true, true, true, true, true, true, true, true, true, true, true, true, true, true, true, true, true, true, true, true, true, true, false, false, false, false, false, false, false, false, false, false, false, false, false, false] rfl rfl (by kernel_rfl) (fun _ _ _ h => h) (Or.inl ⟨by rfl, ?_⟩) ?_ ?_
      rotate_left
      · intro w'
        go_simp
        with_reducible rfl
      rotate_left
      · simp only [Act.put, List.setIfInBounds_toArray, List.set_cons_zero, List.set_cons_succ, i64_w, i32_w]
        rfl
      refine take_ (i := 38) (N := some 80) (v := ?_) (a' := ?_) #[true, true, true, true, true, true, true, true, true, true, true, true, true, true, true, true, true, true, true, true, true, true, true, true, true, true, true, true, true, true, true, true, true, true, true, true, true, true, true, false, false, false, false, false, false, false, false, false, false, false, false, false] rfl rfl (by kernel_rfl) (fun _ _ _ h => h) (Or.inl ⟨by rfl, ?_⟩) hHeld ?_ ?_
      rotate_left
      · rintro w' ⟨s0, s1, s2, s3, s4, s5, s6, s7, s8, s9, s10, s11, s12, s13, s14, s15, s16, s17⟩
        go_simp
        with_reducible rfl
      rotate_left
      · simp only [Act.put, List.setIfInBounds_toArray, List.set_cons_zero, List.set_cons_succ, i64_w, i32_w]
        rfl
      refine pure_ (i := 39) (N := some 81) (v := ?_) (a' := ?_) #[true, true, true, true, true, true, true, true, true, true, true, true, true, true, true, true, true, true, true, true, true, true, true, true, true, true, true, true, true, true, true, true, true, true, true, true, true, true, true, true, false, false, false, false, false, false, false, false, false, false, false, false] rfl rfl (by kernel_rfl) (fun _ _ _ h => h) (Or.inl ⟨by rfl, ?_⟩) ?_ ?_
      rotate_left
      · intro w'
        go_simp
        with_reducible rfl
      rotate_left
      · simp only [Act.put, List.setIfInBounds_toArray, List.set_cons_zero, List.set_cons_succ, i64_w, i32_w]
        rfl
      refine pure_ (i := 40) (N := some 82) (v := ?_) (a' := ?_) #[true, true, true, true, true, true, true, true, true, true, true, true, true, true, true, true, true, true, true, true, true, true, true, true, true, true, true, true, true, true, true, true, true, true, true, true, true, true, true, true, true, false, false, false, false, false, false, false, false, false, false, false] rfl rfl (by kernel_rfl) (fun _ _ _ h => h) (Or.inl ⟨by rfl, ?_⟩) ?_ ?_
      rotate_left
      · intro w'
        go_simp
        with_reducible rfl
      rotate_left
      · simp only [Act.put, List.setIfInBounds_toArray, List.set_cons_zero, List.set_cons_succ, i64_w, i32_w]
        rfl
      refine pure_ (i := 41) (N := some 83) (v := ?_) (a' := ?_) #[true, true, true, true, true, true, true, true, true, true, true, true, true, true, true, true, true, true, true, true, true, true, true, true, true, true, true, true, true, true, true, true, true, true, true, true, true, true, true, true, true, true, false, false, false, false, false, false, false, false, false, false] rfl rfl (by kernel_rfl) (fun _ _ _ h => h) (Or.inl ⟨by rfl, ?_⟩) ?_ ?_
      rotate_left
      · intro w'
        go_simp
        with_reducible rfl
      rotate_left
      · simp only [Act.put, List.setIfInBounds_toArray, List.set_cons_zero, List.set_cons_succ, i64_w, i32_w]
        rfl
      refine pure_ (i := 42) (N := some 84) (v := ?_) (a' := ?_) #[true, true, true, true, true, true, true, true, true, true, true, true, true, true, true, true, true, true, true, true, true, true, true, true, true, true, true, true, true, true, true, true, true, true, true, true, true, true, true, true, true, true, true, false, false, false, false, false, false, false, false, false] rfl rfl (by kernel_rfl) (fun _ _ _ h => h) (Or.inl ⟨by rfl, ?_⟩) ?_ ?_
      rotate_left
      · intro w'
        go_simp
        with_reducible rfl
      rotate_left
      · simp only [Act.put, List.setIfInBounds_toArray, List.set_cons_zero, List.set_cons_succ, i64_w, i32_w]
        rfl
      refine pure_ (i := 43) (N := some 85) (v := ?_) (a' := ?_) #[true, true, true, true, true, true, true, true, true, true, true, true, true, true, true, true, true, true, true, true, true, true, true, true, true, true, true, true, true, true, true, true, true, true, true, true, true, true, true, true, true, true, true, true, false, false, false, false, false, false, false, false] rfl rfl (by kernel_rfl) (fun _ _ _ h => h) (Or.inl ⟨by rfl, ?_⟩) ?_ ?_
      rotate_left
      · intro w'
        go_simp
        with_reducible rfl
      rotate_left
      · simp only [Act.put, List.setIfInBounds_toArray, List.set_cons_zero, List.set_cons_succ, i64_w, i32_w]
        rfl
      refine pure_ (i := 46) (N := some 88) (v := ?_) (a' := ?_) #[true, true, true, true, true, true, true, true, true, true, true, true, true, true, true, true, true, true, true, true, true, true, true, true, true, true, true, true, true, true, true, true, true, true, true, true, true, true, true, true, true, true, true, true, false, false, true, false, false, false, false, false] rfl rfl (by kernel_rfl) (fun _ _ _ h => h) (Or.inl ⟨by rfl, ?_⟩) ?_ ?_
      rotate_left
      · intro w'
        go_simp
        with_reducible rfl
      rotate_left
      · simp only [Act.put, List.setIfInBounds_toArray, List.set_cons_zero, List.set_cons_succ, i64_w, i32_w]
        rfl
      refine take_ (i := 44) (N := some 86) (v := ?_) (a' := ?_) #[true, true, true, true, true, true, true, true, true, true, true, true, true, true, true, true, true, true, true, true, true, true, true, true, true, true, true, true, true, true, true, true, true, true, true, true, true, true, true, true, true, true, true, true, true, false, true, false, false, false, false, false] rfl rfl (by kernel_rfl) (fun _ _ _ h => h) (Or.inl ⟨by rfl, ?_⟩) hHeld ?_ ?_
      rotate_left
      · rintro w' ⟨s0, s1, s2, s3, s4, s5, s6, s7, s8, s9, s10, s11, s12, s13, s14, s15, s16, s17⟩
        go_simp
        with_reducible rfl
      rotate_left
      · simp only [Act.put, List.setIfInBounds_toArray, List.set_cons_zero, List.set_cons_succ, i64_w, i32_w]
        rfl
      refine pure_ (i := 45) (N := some 87) (v := ?_) (a' := ?_) #[true, true, true, true, true, true, true, true, true, true, true, true, true, true, true, true, true, true, true, true, true, true, true, true, true, true, true, true, true, true, true, true, true, true, true, true, true, true, true, true, true, true, true, true, true, true, true, false, false, false, false, false] rfl rfl (by kernel_rfl) (fun _ _ _ h => h) (Or.inl ⟨by rfl, ?_⟩) ?_ ?_
      rotate_left
      · intro w'
        go_simp
        with_reducible rfl
      rotate_left
      · simp only [Act.put, List.setIfInBounds_toArray, List.set_cons_zero, List.set_cons_succ, i64_w, i32_w]
        rfl
      refine take_ (i := 47) (N := some 89) (v := ?_) (a' := ?_) #[true, true, true, true, true, true, true, true, true, true, true, true, true, true, true, true, true, true, true, true, true, true, true, true, true, true, true, true, true, true, true, true, true, true, true, true, true, true, true, true, true, true, true, true, true, true, true, true, false, false, false, false] rfl rfl (by kernel_rfl) (fun _ _ _ h => h) (Or.inl ⟨by rfl, ?_⟩) hHeld ?_ ?_
      rotate_left
      · rintro w' ⟨s0, s1, s2, s3, s4, s5, s6, s7, s8, s9, s10, s11, s12, s13, s14, s15, s16, s17⟩
        go_simp
        with_reducible rfl
      rotate_left
      · simp only [Act.put, List.setIfInBounds_toArray, List.set_cons_zero, List.set_cons_succ, i64_w, i32_w]
        rfl
      refine pure_ (i := 48) (N := some 90) (v := ?_) (a' := ?_) #[true, true, true, true, true, true, true, true, true, true, true, true, true, true, true, true, true, true, true, true, true, true, true, true, true, true, true, true, true, true, true, true, true, true, true, true, true, true, true, true, true, true, true, true, true, true, true, true, true, false, false, false] rfl rfl (by kernel_rfl) (fun _ _ _ h => h) (Or.inl ⟨by rfl, ?_⟩) ?_ ?_
      rotate_left
      · intro w'
        go_simp
        with_reducible rfl
      rotate_left
      · simp only [Act.put, List.setIfInBounds_toArray, List.set_cons_zero, List.set_cons_succ, i64_w, i32_w]
        rfl
      refine pure_ (i := 49) (N := some 91) (v := ?_) (a' := ?_) #[true, true, true, true, true, true, true, true, true, true, true, true, true, true, true, true, true, true, true, true, true, true, true, true, true, true, true, true, true, true, true, true, true, true, true, true, true, true, true, true, true, true, true, true, true, true, true, true, true, true, false, false] rfl rfl (by kernel_rfl) (fun _ _ _ h => h) (Or.inl ⟨by rfl, ?_⟩) ?_ ?_
      rotate_left
      · intro w'
        go_simp
        with_reducible rfl
      rotate_left
      · simp only [Act.put, List.setIfInBounds_toArray, List.set_cons_zero, List.set_cons_succ, i64_w, i32_w]
        rfl
      refine pure_ (i := 50) (N := some 92) (v := ?_) (a' := ?_) #[true, true, true, true, true, true, true, true, true, true, true, true, true, true, true, true, true, true, true, true, true, true, true, true, true, true, true, true, true, true, true, true, true, true, true, true, true, true, true, true, true, true, true, true, true, true, true, true, true, true, true, false] rfl rfl (by kernel_rfl) (fun _ _ _ h => h) (Or.inl ⟨by rfl, ?_⟩) ?_ ?_
      rotate_left
      · intro w'
        go_simp
        with_reducible rfl
      rotate_left
      · simp only [Act.put, List.setIfInBounds_toArray, List.set_cons_zero, List.set_cons_succ, i64_w, i32_w]
        rfl
      refine pure_ (i := 51) (N := some 4) (v := ?_) (a' := ?_) #[true, true, true, true, true, true, true, true, true, true, true, true, true, true, true, true, true, true, true, true, true, true, true, true, true, true, true, true, true, true, true, true, true, true, true, true, true, true, true, true, true, true, true, true, true, true, true, true, true, true, true, true] rfl rfl (by kernel_rfl) (fun _ _ _ h => h) (Or.inl ⟨by rfl, ?_⟩) ?_ ?_
      rotate_left
      · intro w'
        go_simp
        with_reducible rfl
      rotate_left
      · simp only [Act.put, List.setIfInBounds_toArray, List.set_cons_zero, List.set_cons_succ, i64_w, i32_w]
        rfl
      refine done_ (by kernel_rfl) ?_
      clear hHeld
      go_wp2_with fail
      go_ret
      exact ⟨rfl, B19.out⟩
  · have e1 : (h1 : Int) - (d1 : Int) = 1 := by omega
    rcases hq8 with hx2 | hx2
    · have e2 : (h2 : Int) - (d2 : Int) = 0 := by omega
      clear hx1 hx2
      go_quiet (fail)
      clear e1 e2 x7 x8 x9 x10
      have KD := Lib.hid ((K13.out.dn nq).drew)
      have BD := Lib.hid (below_drew (below_dn B13.out nq))
      go_wp2_with fail
      refine start_ (n := 52) (S := fun w' => w'.cell? ⟨w2.heap.size, 0, none⟩ = some (.bool false) ∧ w'.cell? ⟨w2.heap.size, 1, none⟩ = some (.slice a1 q1 k1) ∧ w'.cell? ⟨w2.heap.size, 2, none⟩ = some (.slice b1 q1 v1) ∧ w'.cell? ⟨ya.heap.size, 0, none⟩ = some (.bool false) ∧ w'.cell? ⟨ya.heap.size, 1, none⟩ = some (.slice a2 q2 k2) ∧ w'.cell? ⟨ya.heap.size, 2, none⟩ = some (.slice b2 q2 v2) ∧ w'.cell? ⟨w7.heap.size, 0, none⟩ = some (.bool false) ∧ w'.cell? ⟨w7.heap.size, 1, none⟩ = some (.slice P1 h1 p1) ∧ w'.cell? ⟨w7.heap.size, 2, none⟩ = some (.slice P2 h1 p2) ∧ w'.cell? ⟨za.heap.size, 0, none⟩ = some (.bool false) ∧ w'.cell? ⟨za.heap.size, 1, none⟩ = some (.slice P3 d1 p3) ∧ w'.cell? ⟨za.heap.size, 2, none⟩ = some (.slice P4 d1 p4) ∧ w'.cell? ⟨w12.heap.size, 0, none⟩ = some (.bool false) ∧ w'.cell? ⟨w12.heap.size, 1, none⟩ = some (.slice S1 h2 s1) ∧ w'.cell? ⟨w12.heap.size, 2, none⟩ = some (.slice S2 h2 s2) ∧ w'.cell? ⟨xa.heap.size, 0, none⟩ = some (.bool false) ∧ w'.cell? ⟨xa.heap.size, 1, none⟩ = some (.slice S3 d2 s3) ∧ w'.cell? ⟨xa.heap.size, 2, none⟩ = some (.slice S4 d2 s4)) (ds := []) #[false, false, false, false, false, false, false, false, false, false, false, false, false, false, false, false, false, false, false, false, false, false, false, false, false, false, false, false, false, false, false, false, false, false, false, false, false, false, false, false, false, false, false, false, false, false, false, false, false, false, false, false] (by kernel_rfl) rfl rfl ⟨cell_row (KD.out.row 5 rfl) rfl, cell_row (KD.out.row 5 rfl) rfl, cell_row (KD.out.row 5 rfl) rfl, cell_row (KD.out.row 4 rfl) rfl, cell_row (KD.out.row 4 rfl) rfl, cell_row (KD.out.row 4 rfl) rfl, cell_row (KD.out.row 3 rfl) rfl, cell_row (KD.out.row 3 rfl) rfl, cell_row (KD.out.row 3 rfl) rfl, cell_row (KD.out.row 2 rfl) rfl, cell_row (KD.out.row 2 rfl) rfl, cell_row (KD.out.row 2 rfl) rfl, cell_row (KD.out.row 1 rfl) rfl, cell_row (KD.out.row 1 rfl) rfl, cell_row (KD.out.row 1 rfl) rfl, cell_row (KD.out.row 0 rfl) rfl, cell_row (KD.out.row 0 rfl) rfl, cell_row (KD.out.row 0 rfl) rfl⟩ (fun hHeld => ?_)
      refine one_ (i := 0) (N := some 42) #[true, false, false, false, false, false, false, false, false, false, false, false, false, false, false, false, false, false, false, false, false, false, false, false, false, false, false, false, false, false, false, false, false, false, false, false, false, false, false, false, false, false, false, false, false, false, false, false, false, false, false, false] rfl rfl (by kernel_rfl) (by decide) (fun K hK => ?_)
      refine goes_ Try.func16 (by kernel_rfl) rfl #[] (by rfl) rfl rfl (by simp only [List.map_toArray, List.map_cons, List.map_nil]) ?_
      with_reducible refine (awake_any _).mono ?_
      rintro e w14 ⟨rfl, hb⟩
      refine ⟨_, rfl, ?_⟩
      have K14 := Lib.hid (KD.out.below hb)
      have B14 := Lib.hid (below_then BD.out BD.out.size hb)
      clear hb
      refine hK.out _ _ ⟨cell_row (K14.out.row 5 rfl) rfl, cell_row (K14.out.row 5 rfl) rfl, cell_row (K14.out.row 5 rfl) rfl, cell_row (K14.out.row 4 rfl) rfl, cell_row (K14.out.row 4 rfl) rfl, cell_row (K14.out.row 4 rfl) rfl, cell_row (K14.out.row 3 rfl) rfl, cell_row (K14.out.row 3 rfl) rfl, cell_row (K14.out.row 3 rfl) rfl, cell_row (K14.out.row 2 rfl) rfl, cell_row (K14.out.row 2 rfl) rfl, cell_row (K14.out.row 2 rfl) rfl, cell_row (K14.out.row 1 rfl) rfl, cell_row (K14.out.row 1 rfl) rfl, cell_row (K14.out.row 1 rfl) rfl, cell_row (K14.out.row 0 rfl) rfl, cell_row (K14.out.row 0 rfl) rfl, cell_row (K14.out.row 0 rfl) rfl⟩ (fun hHeld => ?_)
      clear hK K
      refine norm_ (a' := ?_) ?_ ?_
      rotate_left
      · show Act.put _ (some 42) _ = _
        simp only [Act.put, List.setIfInBounds_toArray, List.set_cons_zero, List.set_cons_succ, i64_w, i32_w]
        rfl
      refine pure_ (i := 1) (N := some 43) (v := ?_) (a' := ?_) #[true, true, false, false, false, false, false, false, false, false, false, false, false, false, false, false, false, false, false, false, false, false, false, false, false, false, false, false, false, false, false, false, false, false, false, false, false, false, false, false, false, false, false, false, false, false, false, false, false, false, false, false] rfl rfl (by kernel_rfl) (fun _ _ _ h => h) (Or.inl ⟨by rfl, ?_⟩) ?_ ?_
      rotate_left
      · intro w'
        go_simp
        with_reducible rfl
      rotate_left
      · simp only [Act.put, List.setIfInBounds_toArray, List.set_cons_zero, List.set_cons_succ, i64_w, i32_w]
        rfl
      refine take_ (i := 2) (N := some 44) (v := ?_) (a' := ?_) #[true, true, true, false, false, false, false, false, false, false, false, false, false, false, false, false, false, false, false, false, false, false, false, false, false, false, false, false, false, false, false, false, false, false, false, false, false, false, false, false, false, false, false, false, false, false, false, false, false, false, false, false] rfl rfl (by kernel_rfl) (fun _ _ _ h => h) (Or.inl ⟨by rfl, ?_⟩) hHeld ?_ ?_
      rotate_left
      · rintro w' ⟨s0, s1, s2, s3, s4, s5, s6, s7, s8, s9, s10, s11, s12, s13, s14, s15, s16, s17⟩
        go_simp
        with_reducible rfl
      rotate_left
      · simp only [Act.put, List.setIfInBounds_toArray, List.set_cons_zero, List.set_cons_succ, i64_w, i32_w]
        rfl
      refine take_ (i := 3) (N := some 45) (v := ?_) (a' := ?_) #[true, true, true, true, false, false, false, false, false, false, false, false, false, false, false, false, false, false, false, false, false, false, false, false, false, false, false, false, false, false, false, false, false, false, false, false, false, false, false, false, false, false, false, false, false, false, false, false, false, false, false, false] rfl rfl (by kernel_rfl) (fun _ _ _ h => h) (Or.inl ⟨by rfl, ?_⟩) hHeld ?_ ?_
      rotate_left
      · rintro w' ⟨s0, s1, s2, s3, s4, s5, s6, s7, s8, s9, s10, s11, s12, s13, s14, s15, s16, s17⟩
        go_simp
        with_reducible rfl
      rotate_left
      · simp only [Act.put, List.setIfInBounds_toArray, List.set_cons_zero, List.set_cons_succ, i64_w, i32_w]
        rfl
      refine take_ (i := 5) (N := some 47) (v := ?_) (a' := ?_) #[true, true, true, true, false, true, false, false, false, false, false, false, false, false, false, false, false, false, false, false, false, false, false, false, false, false, false, false, false, false, false, false, false, false, false, false, false, false, false, false, false, false, false, false, false, false, false, false, false, false, false, false] rfl rfl (by kernel_rfl) (fun _ _ _ h => h) (Or.inl ⟨by rfl, ?_⟩) hHeld ?_ ?_
      rotate_left
      · rintro w' ⟨s0, s1, s2, s3, s4, s5, s6, s7, s8, s9, s10, s11, s12, s13, s14, s15, s16, s17⟩
        go_simp
        with_reducible rfl
      rotate_left
      · simp only [Act.put, List.setIfInBounds_toArray, List.set_cons_zero, List.set_cons_succ, i64_w, i32_w]
        rfl
      refine one_ (i := 4) (N := some 46) #[true, true, true, true, true, true, false, false, false, false, false, false, false, false, false, false, false, false, false, false, false, false, false, false, false, false, false, false, false, false, false, false, false, false, false, false, false, false, false, false, false, false, false, false, false, false, false, false, false, false, false, false] rfl rfl (by kernel_rfl) (by decide) (fun K hK => ?_)
      refine goes_ Try.func22 (by kernel_rfl) rfl #[.agg #[.bool false, .slice P1 h1 p1, .slice P2 h1 p2], .agg #[.bool false, .slice P3 d1 p3, .slice P4 d1 p4]] (by rfl) rfl rfl (by simp only [List.map_toArray, List.map_cons, List.map_nil]; rfl) ?_
      with_reducible refine (join_at false false (K1.take h1) ((places q1).take h1) (K1.drop h1) ((places q1).drop h1) P1 P2 P3 P4 h1 p1 h1 p2 d1 p3 d1 p4 h1 d1 q1 _ (K14.out.rd 7 rfl) (K14.out.rd 6 rfl) (K14.out.rd 5 rfl) (K14.out.rd 4 rfl) (Nat.min_self _) (Nat.min_self _) HS.out.1 ⟨O3.out.lk, O3.out.lv⟩ ⟨fun h => (O3.out.nk h).2, fun h => (O3.out.nv h).2⟩ ⟨O4.out.lk, O4.out.lv⟩ ⟨fun h => (O4.out.nk h).2, fun h => (O4.out.nv h).2⟩ HS.out.2.1).mono ?_
      rintro e w15 ⟨E1, u1, E2, u2, rfl, ho, hb⟩
      refine ⟨_, rfl, ?_⟩
      rw [J1.out.1, J1.out.2] at ho
      have O15 := Lib.hid ho
      clear ho
      have K15 := Lib.hid (K14.out.below hb)
      have B15 := Lib.hid (below_then B14.out B14.out.size hb)
      clear hb
      refine hK.out _ _ ⟨cell_row (K15.out.row 5 rfl) rfl, cell_row (K15.out.row 5 rfl) rfl, cell_row (K15.out.row 5 rfl) rfl, cell_row (K15.out.row 4 rfl) rfl, cell_row (K15.out.row 4 rfl) rfl, cell_row (K15.out.row 4 rfl) rfl, cell_row (K15.out.row 3 rfl) rfl, cell_row (K15.out.row 3 rfl) rfl, cell_row (K15.out.row 3 rfl) rfl, cell_row (K15.out.row 2 rfl) rfl, cell_row (K15.out.row 2 rfl) rfl, cell_row (K15.out.row 2 rfl) rfl, cell_row (K15.out.row 1 rfl) rfl, cell_row (K15.out.row 1 rfl) rfl, cell_row (K15.out.row 1 rfl) rfl, cell_row (K15.out.row 0 rfl) rfl, cell_row (K15.out.row 0 rfl) rfl, cell_row (K15.out.row 0 rfl) rfl⟩ (fun hHeld => ?_)
      clear hK K
      refine norm_ (a' := ?_) ?_ ?_
      rotate_left
      · show Act.put _ (some 46) _ = _
        simp only [Act.put, List.setIfInBounds_toArray, List.set_cons_zero, List.set_cons_succ, i64_w, i32_w]
        rfl
      refine one_ (i := 6) (N := some 48) #[true, true, true, true, true, true, true, false, false, false, false, false, false, false, false, false, false, false, false, false, false, false, false, false, false, false, false, false, false, false, false, false, false, false, false, false, false, false, false, false, false, false, false, false, false, false, false, false, false, false, false, false] rfl rfl (by kernel_rfl) (by decide) (fun K hK => ?_)
      refine goes_ Try.func26 (by kernel_rfl) rfl #[.agg #[.bool false, .slice E1 q1 u1, .slice E2 q1 u2], .agg #[.bool false, .slice a1 q1 k1, .slice b1 q1 v1]] (by rfl) rfl rfl (by simp only [List.map_toArray, List.map_cons, List.map_nil]; rfl) ?_
      with_reducible refine (rsame_true false K1 (places q1) K1 (places q1) E1 E2 a1 b1 q1 u1 q1 u2 q1 k1 q1 v1 _ (mine_reads O15.out.k) (mine_reads O15.out.v) (K15.out.rd 11 rfl) (K15.out.rd 10 rfl) rfl rfl).mono ?_
      rintro e w16 ⟨rfl, hb⟩
      refine ⟨_, rfl, ?_⟩
      have K16 := Lib.hid (K15.out.below hb)
      have B16 := Lib.hid (below_then B15.out B15.out.size hb)
      clear hb
      refine hK.out _ _ ⟨cell_row (K16.out.row 5 rfl) rfl, cell_row (K16.out.row 5 rfl) rfl, cell_row (K16.out.row 5 rfl) rfl, cell_row (K16.out.row 4 rfl) rfl, cell_row (K16.out.row 4 rfl) rfl, cell_row (K16.out.row 4 rfl) rfl, cell_row (K16.out.row 3 rfl) rfl, cell_row (K16.out.row 3 rfl) rfl, cell_row (K16.out.row 3 rfl) rfl, cell_row (K16.out.row 2 rfl) rfl, cell_row (K16.out.row 2 rfl) rfl, cell_row (K16.out.row 2 rfl) rfl, cell_row (K16.out.row 1 rfl) rfl, cell_row (K16.out.row 1 rfl) rfl, cell_row (K16.out.row 1 rfl) rfl, cell_row (K16.out.row 0 rfl) rfl, cell_row (K16.out.row 0 rfl) rfl, cell_row (K16.out.row 0 rfl) rfl⟩ (fun hHeld => ?_)
      clear hK K
      refine norm_ (a' := ?_) ?_ ?_
      rotate_left
      · show Act.put _ (some 48) _ = _
        simp only [Act.put, List.setIfInBounds_toArray, List.set_cons_zero, List.set_cons_succ, i64_w, i32_w]
        rfl
      refine pure_ (i := 7) (N := some 49) (v := ?_) (a' := ?_) #[true, true, true, true, true, true, true, true, false, false, false, false, false, false, false, false, false, false, false, false, false, false, false, false, false, false, false, false, false, false, false, false, false, false, false, false, false, false, false, false, false, false, false, false, false, false, false, false, false, false, false, false] rfl rfl (by kernel_rfl) (fun _ _ _ h => h) (Or.inl ⟨by rfl, ?_⟩) ?_ ?_
      rotate_left
      · intro w'
        go_simp
        with_reducible rfl
      rotate_left
      · simp only [Act.put, List.setIfInBounds_toArray, List.set_cons_zero, List.set_cons_succ, i64_w, i32_w]
        rfl
      refine pure_ (i := 8) (N := some 50) (v := ?_) (a' := ?_) #[true, true, true, true, true, true, true, true, true, false, false, false, false, false, false, false, false, false, false, false, false, false, false, false, false, false, false, false, false, false, false, false, false, false, false, false, false, false, false, false, false, false, false, false, false, false, false, false, false, false, false, false] rfl rfl (by kernel_rfl) (fun _ _ _ h => h) (Or.inl ⟨by rfl, ?_⟩) ?_ ?_
      rotate_left
      · intro w'
        go_simp
        with_reducible rfl
      rotate_left
      · simp only [Act.put, List.setIfInBounds_toArray, List.set_cons_zero, List.set_cons_succ, i64_w, i32_w]
        rfl
      refine pure_ (i := 9) (N := some 51) (v := ?_) (a' := ?_) #[true, true, true, true, true, true, true, true, true, true, false, false, false, false, false, false, false, false, false, false, false, false, false, false, false, false, false, false, false, false, false, false, false, false, false, false, false, false, false, false, false, false, false, false, false, false, false, false, false, false, false, false] rfl rfl (by kernel_rfl) (fun _ _ _ h => h) (Or.inl ⟨by rfl, ?_⟩) ?_ ?_
      rotate_left
      · intro w'
        go_simp
        with_reducible rfl
      rotate_left
      · simp only [Act.put, List.setIfInBounds_toArray, List.set_cons_zero, List.set_cons_succ, i64_w, i32_w]
        rfl
      refine pure_ (i := 10) (N := some 52) (v := ?_) (a' := ?_) #[true, true, true, true, true, true, true, true, true, true, true, false, false, false, false, false, false, false, false, false, false, false, false, false, false, false, false, false, false, false, false, false, false, false, false, false, false, false, false, false, false, false, false, false, false, false, false, false, false, false, false, false] rfl rfl (by kernel_rfl) (fun _ _ _ h => h) (Or.inl ⟨by rfl, ?_⟩) ?_ ?_
      rotate_left
      · intro w'
        go_simp
        with_reducible rfl
      rotate_left
      · simp only [Act.put, List.setIfInBounds_toArray, List.set_cons_zero, List.set_cons_succ, i64_w, i32_w]
        rfl
      refine pure_ (i := 11) (N := some 53) (v := ?_) (a' := ?_) #[true, true, true, true, true, true, true, true, true, true, true, true, false, false, false, false, false, false, false, false, false, false, false, false, false, false, false, false, false, false, false, false, false, false, false, false, false, false, false, false, false, false, false, false, false, false, false, false, false, false, false, false] rfl rfl (by kernel_rfl) (fun _ _ _ h => h) (Or.inl ⟨by rfl, ?_⟩) ?_ ?_
      rotate_left
      · intro w'
        go_simp
        with_reducible rfl
      rotate_left
      · simp only [Act.put, List.setIfInBounds_toArray, List.set_cons_zero, List.set_cons_succ, i64_w, i32_w]
        rfl
      refine pure_ (i := 12) (N := some 54) (v := ?_) (a' := ?_) #[true, true, true, true, true, true, true, true, true, true, true, true, true, false, false, false, false, false, false, false, false, false, false, false, false, false, false, false, false, false, false, false, false, false, false, false, false, false, false, false, false, false, false, false, false, false, false, false, false, false, false, false] rfl rfl (by kernel_rfl) (fun _ _ _ h => h) (Or.inl ⟨by rfl, ?_⟩) ?_ ?_
      rotate_left
      · intro w'
        go_simp
        with_reducible rfl
      rotate_left
      · simp only [Act.put, List.setIfInBounds_toArray, List.set_cons_zero, List.set_cons_succ, i64_w, i32_w]
        rfl
      refine pure_ (i := 13) (N := some 55) (v := ?_) (a' := ?_) #[true, true, true, true, true, true, true, true, true, true, true, true, true, true, false, false, false, false, false, false, false, false, false, false, false, false, false, false, false, false, false, false, false, false, false, false, false, false, false, false, false, false, false, false, false, false, false, false, false, false, false, false] rfl rfl (by kernel_rfl) (fun _ _ _ h => h) (Or.inl ⟨by rfl, ?_⟩) ?_ ?_
      rotate_left
      · intro w'
        go_simp
        with_reducible rfl
      rotate_left
      · simp only [Act.put, List.setIfInBounds_toArray, List.set_cons_zero, List.set_cons_succ, i64_w, i32_w]
        rfl
      refine pure_ (i := 14) (N := some 56) (v := ?_) (a' := ?_) #[true, true, true, true, true, true, true, true, true, true, true, true, true, true, true, false, false, false, false, false, false, false, false, false, false, false, false, false, false, false, false, false, false, false, false, false, false, false, false, false, false, false, false, false, false, false, false, false, false, false, false, false] rfl rfl (by kernel_rfl) (fun _ _ _ h => h) (Or.inl ⟨by rfl, ?_⟩) ?_ ?_
      rotate_left
      · intro w'
        go_simp
        with_reducible rfl
      rotate_left
      · simp only [Act.put, List.setIfInBounds_toArray, List.set_cons_zero, List.set_cons_succ, i64_w, i32_w]
        rfl
      refine pure_ (i := 15) (N := some 57) (v := ?_) (a' := ?_) #[true, true, true, true, true, true, true, true, true, true, true, true, true, true, true, true, false, false, false, false, false, false, false, false, false, false, false, false, false, false, false, false, false, false, false, false, false, false, false, false, false, false, false, false, false, false, false, false, false, false, false, false] rfl rfl (by kernel_rfl) (fun _ _ _ h => h) (Or.inl ⟨by rfl, ?_⟩) ?_ ?_
      rotate_left
      · intro w'
        go_simp
        with_reducible rfl
      rotate_left
      · simp only [Act.put, List.setIfInBounds_toArray, List.set_cons_zero, List.set_cons_succ, i64_w, i32_w]
        rfl
      refine pure_ (i := 16) (N := some 58) (v := ?_) (a' := ?_) #[true, true, true, true, true, true, true, true, true, true, true, true, true, true, true, true, true, false, false, false, false, false, false, false, false, false, false, false, false, false, false, false, false, false, false, false, false, false, false, false, false, false, false, false, false, false, false, false, false, false, false, false] rfl rfl (by kernel_rfl) (fun _ _ _ h => h) (Or.inl ⟨by rfl, ?_⟩) ?_ ?_
      rotate_left
      · intro w'
        go_simp
        with_reducible rfl
      rotate_left
      · simp only [Act.put, List.setIfInBounds_toArray, List.set_cons_zero, List.set_cons_succ, i64_w, i32_w]
        rfl
      refine pure_ (i := 17) (N := some 59) (v := ?_) (a' := ?_) #[true, true, true, true, true, true, true, true, true, true, true, true, true, true, true, true, true, true, false, false, false, false, false, false, false, false, false, false, false, false, false, false, false, false, false, false, false, false, false, false, false, false, false, false, false, false, false, false, false, false, false, false] rfl rfl (by kernel_rfl) (fun _ _ _ h => h) (Or.inl ⟨by rfl, ?_⟩) ?_ ?_
      rotate_left
      · intro w'
        go_simp
        with_reducible rfl
      rotate_left
      · simp only [Act.put, List.setIfInBounds_toArray, List.set_cons_zero, List.set_cons_succ, i64_w, i32_w]
        rfl
      refine pure_ (i := 18) (N := some 60) (v := ?_) (a' := ?_) #[true, true, true, true, true, true, true, true, true, true, true, true, true, true, true, true, true, true, true, false, false, false, false, false, false, false, false, false, false, false, false, false, false, false, false, false, false, false, false, false, false, false, false, false, false, false, false, false, false, false, false, false] rfl rfl (by kernel_rfl) (fun _ _ _ h => h) (Or.inl ⟨by rfl, ?_⟩) ?_ ?_
      rotate_left
      · intro w'
        go_simp
        with_reducible rfl
      rotate_left
      · simp only [Act.put, List.setIfInBounds_toArray, List.set_cons_zero, List.set_cons_succ, i64_w, i32_w]
        rfl
      refine pure_ (i := 19) (N := some 61) (v := ?_) (a' := ?_) #[true, true, true, true, true, true, true, true, true, true, true, true, true, true, true, true, true, true, true, true, false, false, false, false, false, false, false, false, false, false, false, false, false, false, false, false, false, false, false, false, false, false, false, false, false, false, false, false, false, false, false, false] rfl rfl (by kernel_rfl) (fun _ _ _ h => h) (Or.inl ⟨by rfl, ?_⟩) ?_ ?_
      rotate_left
      · intro w'
        go_simp
        with_reducible rfl
      rotate_left
      · simp only [Act.put, List.setIfInBounds_toArray, List.set_cons_zero, List.set_cons_succ, i64_w, i32_w]
        rfl
      refine pure_ (i := 20) (N := some 62) (v := undef) (a' := ?_) #[true, true, true, true, true, true, true, true, true, true, true, true, true, true, true, true, true, true, true, true, true, false, false, false, false, false, false, false, false, false, false, false, false, false, false, false, false, false, false, false, false, false, false, false, false, false, false, false, false, false, false, false] rfl rfl (by kernel_rfl) (fun _ _ _ h => h) (Or.inr ⟨by rfl, rfl⟩) ?_ ?_
      rotate_left
      · simp only [Act.put, List.setIfInBounds_toArray, List.set_cons_zero, List.set_cons_succ, i64_w, i32_w]
        rfl
      refine pure_ (i := 21) (N := some 63) (v := undef) (a' := ?_) #[true, true, true, true, true, true, true, true, true, true, true, true, true, true, true, true, true, true, true, true, true, true, false, false, false, false, false, false, false, false, false, false, false, false, false, false, false, false, false, false, false, false, false, false, false, false, false, false, false, false, false, false] rfl rfl (by kernel_rfl) (fun _ _ _ h => h) (Or.inr ⟨by rfl, rfl⟩) ?_ ?_
      rotate_left
      · simp only [Act.put, List.setIfInBounds_toArray, List.set_cons_zero, List.set_cons_succ, i64_w, i32_w]
        rfl
      refine pure_ (i := 22) (N := some 64) (v := ?_) (a' := ?_) #[true, true, true, true, true, true, true, true, true, true, true, true, true, true, true, true, true, true, true, true, true, true, true, false, false, false, false, false, false, false, false, false, false, false, false, false, false, false, false, false, false, false, false, false, false, false, false, false, false, false, false, false] rfl rfl (by kernel_rfl) (fun _ _ _ h => h) (Or.inl ⟨by rfl, ?_⟩) ?_ ?_
      rotate_left
      · intro w'
        go_simp
        with_reducible rfl
      rotate_left
      · simp only [Act.put, List.setIfInBounds_toArray, List.set_cons_zero, List.set_cons_succ, i64_w, i32_w]
        rfl
      refine pure_ (i := 23) (N := some 65) (v := ?_) (a' := ?_) #[true, true, true, true, true, true, true, true, true, true, true, true, true, true, true, true, true, true, true, true, true, true, true, true, false, false, false, false, false, false, false, false, false, false, false, false, false, false, false, false, false, false, false, false, false, false, false, false, false, false, false, false] rfl rfl (by kernel_rfl) (fun _ _ _ h => h) (Or.inl ⟨by rfl, ?_⟩) ?_ ?_
      rotate_left
      · intro w'
        go_simp
        with_reducible rfl
      rotate_left
      · simp only [Act.put, List.setIfInBounds_toArray, List.set_cons_zero, List.set_cons_succ, i64_w, i32_w]
        rfl
      refine pure_ (i := 24) (N := some 66) (v := ?_) (a' := ?_) #[true, true, true, true, true, true, true, true, true, true, true, true, true, true, true, true, true, true, true, true, true, true, true, true, true, false, false, false, false, false, false, false, false, false, false, false, false, false, false, false, false, false, false, false, false, false, false, false, false, false, false, false] rfl rfl (by kernel_rfl) (fun _ _ _ h => h) (Or.inl ⟨by rfl, ?_⟩) ?_ ?_
      rotate_left
      · intro w'
        go_simp
        with_reducible rfl
      rotate_left
      · simp only [Act.put, List.setIfInBounds_toArray, List.set_cons_zero, List.set_cons_succ, i64_w, i32_w]
        rfl
      refine take_ (i := 25) (N := some 67) (v := ?_) (a' := ?_) #[true, true, true, true, true, true, true, true, true, true, true, true, true, true, true, true, true, true, true, true, true, true, true, true, true, true, false, false, false, false, false, false, false, false, false, false, false, false, false, false, false, false, false, false, false, false, false, false, false, false, false, false] rfl rfl (by kernel_rfl) (fun _ _ _ h => h) (Or.inl ⟨by rfl, ?_⟩) hHeld ?_ ?_
      rotate_left
      · rintro w' ⟨s0, s1, s2, s3, s4, s5, s6, s7, s8, s9, s10, s11, s12, s13, s14, s15, s16, s17⟩
        go_simp
        with_reducible rfl
      rotate_left
      · simp only [Act.put, List.setIfInBounds_toArray, List.set_cons_zero, List.set_cons_succ, i64_w, i32_w]
        rfl
      refine take_ (i := 26) (N := some 68) (v := ?_) (a' := ?_) #[true, true, true, true, true, true, true, true, true, true, true, true, true, true, true, true, true, true, true, true, true, true, true, true, true, true, true, false, false, false, false, false, false, false, false, false, false, false, false, false, false, false, false, false, false, false, false, false, false, false, false, false] rfl rfl (by kernel_rfl) (fun _ _ _ h => h) (Or.inl ⟨by rfl, ?_⟩) hHeld ?_ ?_
      rotate_left
      · rintro w' ⟨s0, s1, s2, s3, s4, s5, s6, s7, s8, s9, s10, s11, s12, s13, s14, s15, s16, s17⟩
        go_simp
        with_reducible rfl
      rotate_left
      · simp only [Act.put, List.setIfInBounds_toArray, List.set_cons_zero, List.set_cons_succ, i64_w, i32_w]
        rfl
      refine take_ (i := 28) (N := some 70) (v := ?_) (a' := ?_) #[true, true, true, true, true, true, true, true, true, true, true, true, true, true, true, true, true, true, true, true, true, true, true, true, true, true, true, false, true, false, false, false, false, false, false, false, false, false, false, false, false, false, false, false, false, false, false, false, false, false, false, false] rfl rfl (by kernel_rfl) (fun _ _ _ h => h) (Or.inl ⟨by rfl, ?_⟩) hHeld ?_ ?_
      rotate_left
      · rintro w' ⟨s0, s1, s2, s3, s4, s5, s6, s7, s8, s9, s10, s11, s12, s13, s14, s15, s16, s17⟩
        go_simp
        with_reducible rfl
      rotate_left
      · simp only [Act.put, List.setIfInBounds_toArray, List.set_cons_zero, List.set_cons_succ, i64_w, i32_w]
        rfl
      refine take_ (i := 29) (N := some 71) (v := ?_) (a' := ?_) #[true, true, true, true, true, true, true, true, true, true, true, true, true, true, true, true, true, true, true, true, true, true, true, true, true, true, true, false, true, true, false, false, false, false, false, false, false, false, false, false, false, false, false, false, false, false, false, false, false, false, false, false] rfl rfl (by kernel_rfl) (fun _ _ _ h => h) (Or.inl ⟨by rfl, ?_⟩) hHeld ?_ ?_
      rotate_left
      · rintro w' ⟨s0, s1, s2, s3, s4, s5, s6, s7, s8, s9, s10, s11, s12, s13, s14, s15, s16, s17⟩
        go_simp
        with_reducible rfl
      rotate_left
      · simp only [Act.put, List.setIfInBounds_toArray, List.set_cons_zero, List.set_cons_succ, i64_w, i32_w]
        rfl
      refine one_ (i := 27) (N := some 69) #[true, true, true, true, true, true, true, true, true, true, true, true, true, true, true, true, true, true, true, true, true, true, true, true, true, true, true, true, true, true, false, false, false, false, false, false, false, false, false, false, false, false, false, false, false, false, false, false, false, false, false, false] rfl rfl (by kernel_rfl) (by decide) (fun K hK => ?_)
      refine goes_ Try.func22 (by kernel_rfl) rfl #[.agg #[.bool false, .slice S1 h2 s1, .slice S2 h2 s2], .agg #[.bool false, .slice S3 d2 s3, .slice S4 d2 s4]] (by rfl) rfl rfl (by simp only [List.map_toArray, List.map_cons, List.map_nil]; rfl) ?_
      with_reducible refine (join_at false false ((K1 ++ K2).take h2) ((places q1 ++ places q2).take h2) ((K1 ++ K2).drop h2) ((places q1 ++ places q2).drop h2) S1 S2 S3 S4 h2 s1 h2 s2 d2 s3 d2 s4 h2 d2 (q1 + q2) _ (K16.out.rd 3 rfl) (K16.out.rd 2 rfl) (K16.out.rd 1 rfl) (K16.out.rd 0 rfl) (Nat.min_self _) (Nat.min_self _) HS.out.2.2.1 ⟨O5.out.lk, O5.out.lv⟩ ⟨fun h => (O5.out.nk h).2, fun h => (O5.out.nv h).2⟩ ⟨O6.out.lk, O6.out.lv⟩ ⟨fun h => (O6.out.nk h).2, fun h => (O6.out.nv h).2⟩ HS.out.2.2.2).mono ?_
      rintro e w17 ⟨F1, t1, F2, t2, rfl, ho, hb⟩
      refine ⟨_, rfl, ?_⟩
      rw [J2.out.1, J2.out.2] at ho
      have O17 := Lib.hid ho
      clear ho
      have K17 := Lib.hid (K16.out.below hb)
      have B17 := Lib.hid (below_then B16.out B16.out.size hb)
      clear hb
      refine hK.out _ _ ⟨cell_row (K17.out.row 5 rfl) rfl, cell_row (K17.out.row 5 rfl) rfl, cell_row (K17.out.row 5 rfl) rfl, cell_row (K17.out.row 4 rfl) rfl, cell_row (K17.out.row 4 rfl) rfl, cell_row (K17.out.row 4 rfl) rfl, cell_row (K17.out.row 3 rfl) rfl, cell_row (K17.out.row 3 rfl) rfl, cell_row (K17.out.row 3 rfl) rfl, cell_row (K17.out.row 2 rfl) rfl, cell_row (K17.out.row 2 rfl) rfl, cell_row (K17.out.row 2 rfl) rfl, cell_row (K17.out.row 1 rfl) rfl, cell_row (K17.out.row 1 rfl) rfl, cell_row (K17.out.row 1 rfl) rfl, cell_row (K17.out.row 0 rfl) rfl, cell_row (K17.out.row 0 rfl) rfl, cell_row (K17.out.row 0 rfl) rfl⟩ (fun hHeld => ?_)
      clear hK K
      refine norm_ (a' := ?_) ?_ ?_
      rotate_left
      · show Act.put _ (some 69) _ = _
        simp only [Act.put, List.setIfInBounds_toArray, List.set_cons_zero, List.set_cons_succ, i64_w, i32_w]
        rfl
      refine one_ (i := 30) (N := some 72) #[true, true, true, true, true, true, true, true, true, true, true, true, true, true, true, true, true, true, true, true, true, true, true, true, true, true, true, true, true, true, true, false, false, false, false, false, false, false, false, false, false, false, false, false, false, false, false, false, false, false, false, false] rfl rfl (by kernel_rfl) (by decide) (fun K hK => ?_)
      refine goes_ Try.func22 (by kernel_rfl) rfl #[.agg #[.bool false, .slice a1 q1 k1, .slice b1 q1 v1], .agg #[.bool false, .slice a2 q2 k2, .slice b2 q2 v2]] (by rfl) rfl rfl (by simp only [List.map_toArray, List.map_cons, List.map_nil]; rfl) ?_
      with_reducible refine (join_at false false K1 (places q1) K2 (places q2) a1 b1 a2 b2 q1 k1 q1 v1 q2 k2 q2 v2 q1 q2 (q1 + q2) _ (K17.out.rd 11 rfl) (K17.out.rd 10 rfl) (K17.out.rd 9 rfl) (K17.out.rd 8 rfl) (Nat.min_self _) (Nat.min_self _) rfl ⟨O1.out.lk, O1.out.lv⟩ ⟨fun h => (O1.out.nk h).2, fun h => (O1.out.nv h).2⟩ ⟨O2.out.lk, O2.out.lv⟩ ⟨fun h => (O2.out.nk h).2, fun h => (O2.out.nv h).2⟩ HS.out.2.2.2).mono ?_
      rintro e w18 ⟨G1, r1, G2, r2, rfl, ho, hb⟩
      refine ⟨_, rfl, ?_⟩
      rw [T1.out.1, T1.out.2, T2.out.1, T2.out.2] at ho
      have O18 := Lib.hid ho
      have O17b := Lib.hid (own2_below O17.out hb)
      clear ho
      have K18 := Lib.hid (K17.out.below hb)
      have B18 := Lib.hid (below_then B17.out B17.out.size hb)
      clear hb
      refine hK.out _ _ ⟨cell_row (K18.out.row 5 rfl) rfl, cell_row (K18.out.row 5 rfl) rfl, cell_row (K18.out.row 5 rfl) rfl, cell_row (K18.out.row 4 rfl) rfl, cell_row (K18.out.row 4 rfl) rfl, cell_row (K18.out.row 4 rfl) rfl, cell_row (K18.out.row 3 rfl) rfl, cell_row (K18.out.row 3 rfl) rfl, cell_row (K18.out.row 3 rfl) rfl, cell_row (K18.out.row 2 rfl) rfl, cell_row (K18.out.row 2 rfl) rfl, cell_row (K18.out.row 2 rfl) rfl, cell_row (K18.out.row 1 rfl) rfl, cell_row (K18.out.row 1 rfl) rfl, cell_row (K18.out.row 1 rfl) rfl, cell_row (K18.out.row 0 rfl) rfl, cell_row (K18.out.row 0 rfl) rfl, cell_row (K18.out.row 0 rfl) rfl⟩ (fun hHeld => ?_)
      clear hK K
      refine norm_ (a' := ?_) ?_ ?_
      rotate_left
      · show Act.put _ (some 72) _ = _
        simp only [Act.put, List.setIfInBounds_toArray, List.set_cons_zero, List.set_cons_succ, i64_w, i32_w]
        rfl
      refine one_ (i := 31) (N := some 73) #[true, true, true, true, true, true, true, true, true, true, true, true, true, true, true, true, true, true, true, true, true, true, true, true, true, true, true, true, true, true, true, true, false, false, false, false, false, false, false, false, false, false, false, false, false, false, false, false, false, false, false, false] rfl rfl (by kernel_rfl) (by decide) (fun K hK => ?_)
      refine goes_ Try.func26 (by kernel_rfl) rfl #[.agg #[.bool false, .slice F1 (q1 + q2) t1, .slice F2 (q1 + q2) t2], .agg #[.bool false, .slice G1 (q1 + q2) r1, .slice G2 (q1 + q2) r2]] (by rfl) rfl rfl (by simp only [List.map_toArray, List.map_cons, List.map_nil]; rfl) ?_
      with_reducible refine (rsame_true false (K1 ++ K2) (places q1 ++ places q2) (K1 ++ K2) (places q1 ++ places q2) F1 F2 G1 G2 (q1 + q2) t1 (q1 + q2) t2 (q1 + q2) r1 (q1 + q2) r2 _ (mine_reads O17b.out.k) (mine_reads O17b.out.v) (mine_reads O18.out.k) (mine_reads O18.out.v) rfl rfl).mono ?_
      rintro e w19 ⟨rfl, hb⟩
      refine ⟨_, rfl, ?_⟩
      have K19 := Lib.hid (K18.out.below hb)
      have B19 := Lib.hid (below_then B18.out B18.out.size hb)
      clear hb
      refine hK.out _ _ ⟨cell_row (K19.out.row 5 rfl) rfl, cell_row (K19.out.row 5 rfl) rfl, cell_row (K19.out.row 5 rfl) rfl, cell_row (K19.out.row 4 rfl) rfl, cell_row (K19.out.row 4 rfl) rfl, cell_row (K19.out.row 4 rfl) rfl, cell_row (K19.out.row 3 rfl) rfl, cell_row (K19.out.row 3 rfl) rfl, cell_row (K19.out.row 3 rfl) rfl, cell_row (K19.out.row 2 rfl) rfl, cell_row (K19.out.row 2 rfl) rfl, cell_row (K19.out.row 2 rfl) rfl, cell_row (K19.out.row 1 rfl) rfl, cell_row (K19.out.row 1 rfl) rfl, cell_row (K19.out.row 1 rfl) rfl, cell_row (K19.out.row 0 rfl) rfl, cell_row (K19.out.row 0 rfl) rfl, cell_row (K19.out.row 0 rfl) rfl⟩ (fun hHeld => ?_)
      clear hK K
      refine norm_ (a' := ?_) ?_ ?_
      rotate_left
      · show Act.put _ (some 73) _ = _
        simp only [Act.put, List.setIfInBounds_toArray, List.set_cons_zero, List.set_cons_succ, i64_w, i32_w]
        rfl
      refine pure_ (i := 32) (N := some 74) (v := ?_) (a' := ?_) #[true, true, true, true, true, true, true, true, true, true, true, true, true, true, true, true, true, true, true, true, true, true, true, true, true, true, true, true, true, true, true, true, true, false, false, false, false, false, false, false, false, false, false, false, false, false, false, false, false, false, false, false] rfl rfl (by kernel_rfl) (fun _ _ _ h => h) (Or.inl ⟨by rfl, ?_⟩) ?_ ?_
      rotate_left
      · intro w'
        go_simp
        with_reducible rfl
      rotate_left
      · simp only [Act.put, List.setIfInBounds_toArray, List.set_cons_zero, List.set_cons_succ, i64_w, i32_w]
        rfl
      refine pure_ (i := 33) (N := some 75) (v := ?_) (a' := ?_) #[true, true, true, true, true, true, true, true, true, true, true, true, true, true, true, true, true, true, true, true, true, true, true, true, true, true, true, true, true, true, true, true, true, true, false, false, false, false, false, false, false, false, false, false, false, false, false, false, false, false, false, false] rfl rfl (by kernel_rfl) (fun _ _ _ h => h) (Or.inl ⟨by rfl, ?_⟩) ?_ ?_
      rotate_left
      · intro w'
        go_simp
        with_reducible rfl
      rotate_left
      · simp only [Act.put, List.setIfInBounds_toArray, List.set_cons_zero, List.set_cons_succ, i64_w, i32_w]
        rfl
      refine pure_ (i := 34) (N := some 76) (v := ?_) (a' := ?_) #[true, true, true, true, true, true, true, true, true, true, true, true, true, true, true, true, true, true, true, true, true, true, true, true, true, true, true, true, true, true, true, true, true, true, true, false, false, false, false, false, false, false, false, false, false, false, false, false, false, false, false, false] rfl rfl (by kernel_rfl) (fun _ _ _ h => h) (Or.inl ⟨by rfl, ?_⟩) ?_ ?_
      rotate_left
      · intro w'
        go_simp
        with_reducible rfl
      rotate_left
      · simp only [Act.put, List.setIfInBounds_toArray, List.set_cons_zero, List.set_cons_succ, i64_w, i32_w]
        rfl
      refine pure_ (i := 37) (N := some 79) (v := ?_) (a' := ?_) #[true, true, true, true, true, true, true, true, true, true, true, true, true, true, true, true, true, true, true, true, true, true, true, true, true, true, true, true, true, true, true, true, true, true, true, false, false, true, false, false, false, false, false, false, false, false, false, false, false, false, false, false] rfl rfl (by kernel_rfl) (fun _ _ _ h => h) (Or.inl ⟨by rfl, ?_⟩) ?_ ?_
      rotate_left
      · intro w'
        go_simp
        with_reducible rfl
      rotate_left
      · simp only [Act.put, List.setIfInBounds_toArray, List.set_cons_zero, List.set_cons_succ, i64_w, i32_w]
        rfl
      refine take_ (i := 35) (N := some 77) (v := ?_) (a' := ?_) #[true, true, true, true, true, true, true, true, true, true, true, true, true, true, true, true, true, true, true, true, true, true, true, true, true, true, true, true, true, true, true, true, true, true, true, true, false, true, false, false, false, false, false, false, false, false, false, false, false, false, false, false] rfl rfl (by kernel_rfl) (fun _ _ _ h => h) (Or.inl ⟨by rfl, ?_⟩) hHeld ?_ ?_
      rotate_left
      · rintro w' ⟨s0, s1, s2, s3, s4, s5, s6, s7, s8, s9, s10, s11, s12, s13, s14, s15, s16, s17⟩
        go_simp
        with_reducible rfl
      rotate_left
      · simp only [Act.put, List.setIfInBounds_toArray, List.set_cons_zero, List.set_cons_succ, i64_w, i32_w]
        rfl
      refine pure_ (i := 36) (N := some 78) (v := ?_) (a' := ?_) #[true, true, true, true, true, true, true, true, true, true, true, true, true, true, true, true, true, true, true, true, true, true, true, true, true, true, true, true, true, true, true, true, true, true, true, true, true, true, false, false, false, false, false, false, false, false, false, false, false, false, false, false] rfl rfl (by kernel_rfl) (fun _ _ _ h => h) (Or.inl ⟨by rfl, ?_⟩) ?_ ?_
      rotate_left
      · intro w'
        go_simp
        with_reducible rfl
      rotate_left
      · simp only [Act.put, List.setIfInBounds_toArray, List.set_cons_zero, List.set_cons_succ, i64_w, i32_w]
        rfl
      refine take_ (i := 38) (N := some 80) (v := ?_) (a' := ?_) #[true, true, true, true, true, true, true, true, true, true, true, true, true, true, true, true, true, true, true, true, true, true, true, true, true, true, true, true, true, true, true, true, true, true, true, true, true, true, true, false, false, false, false, false, false, false, false, false, false, false, false, false] rfl rfl (by kernel_rfl) (fun _ _ _ h => h) (Or.inl ⟨by rfl, ?_⟩) hHeld ?_ ?_
      rotate_left
      · rintro w' ⟨s0, s1, s2, s3, s4, s5, s6, s7, s8, s9, s10, s11, s12, s13, s14, s15, s16, s17⟩
        go_simp
        with_reducible rfl
      rotate_left
      · simp only [Act.put, List.setIfInBounds_toArray, List.set_cons_zero, List.set_cons_succ, i64_w, i32_w]
        rfl
      refine pure_ (i := 39) (N := some 81) (v := ?_) (a' := ?_) #[true, true, true, true, true, true, true, true, true, true, true, true, true, true, true, true, true, true, true, true, true, true, true, true, true, true, true, true, true, true, true, true, true, true, true, true, true, true, true, true, false, false, false, false, false, false, false, false, false, false, false, false] rfl rfl (by kernel_rfl) (fun _ _ _ h => h) (Or.inl ⟨by rfl, ?_⟩) ?_ ?_
      rotate_left
      · intro w'
        go_simp
        with_reducible rfl
      rotate_left
      · simp only [Act.put, List.setIfInBounds_toArray, List.set_cons_zero, List.set_cons_succ, i64_w, i32_w]
        rfl
      refine pure_ (i := 40) (N := some 82) (v := ?_) (a' := ?_) #[true, true, true, true, true, true, true, true, true, true, true, true, true, true, true, true, true, true, true, true, true, true, true, true, true, true, true, true, true, true, true, true, true, true, true, true, true, true, true, true, true, false, false, false, false, false, false, false, false, false, false, false] rfl rfl (by kernel_rfl) (fun _ _ _ h => h) (Or.inl ⟨by rfl, ?_⟩) ?_ ?_
      rotate_left
      · intro w'
        go_simp
        with_reducible rfl
      rotate_left
      · simp only [Act.put, List.setIfInBounds_toArray, List.set_cons_zero, List.set_cons_succ, i64_w, i32_w]
        rfl
      refine pure_ (i := 41) (N := some 83) (v := ?_) (a' := ?_) #[true, true, true, true, true, true, true, true, true, true, true, true, true, true, true, true, true, true, true, true, true, true, true, true, true, true, true, true, true, true, true, true, true, true, true, true, true, true, true, true, true, true, false, false, false, false, false, false, false, false, false, false] rfl rfl (by kernel_rfl) (fun _ _ _ h => h) (Or.inl ⟨by rfl, ?_⟩) ?_ ?_
      rotate_left
      · intro w'
        go_simp
        with_reducible rfl
      rotate_left
      · simp only [Act.put, List.setIfInBounds_toArray, List.set_cons_zero, List.set_cons_succ, i64_w, i32_w]
        rfl
      refine pure_ (i := 42) (N := some 84) (v := ?_) (a' := ?_) #[true, true, true, true, true, true, true, true, true, true, true, true, true, true, true, true, true, true, true, true, true, true, true, true, true, true, true, true, true, true, true, true, true, true, true, true, true, true, true, true, true, true, true, false, false, false, false, false, false, false, false, false] rfl rfl (by kernel_rfl) (fun _ _ _ h => h) (Or.inl ⟨by rfl, ?_⟩) ?_ ?_
      rotate_left
      · intro w'
        go_simp
        with_reducible rfl
      rotate_left
      · simp only [Act.put, List.setIfInBounds_toArray, List.set_cons_zero, List.set_cons_succ, i64_w, i32_w]
        rfl
      refine pure_ (i := 43) (N := some 85) (v := ?_) (a' := ?_) #[true, true, true, true, true, true, true, true, true, true, true, true, true, true, true, true, true, true, true, true, true, true, true, true, true, true, true, true, true, true, true, true, true, true, true, true, true, true, true, true, true, true, true, true, false, false, false, false, false, false, false, false] rfl rfl (by kernel_rfl) (fun _ _ _ h => h) (Or.inl ⟨by rfl, ?_⟩) ?_ ?_
      rotate_left
      · intro w'
        go_simp
        with_reducible rfl
      rotate_left
      · simp only [Act.put, List.setIfInBounds_toArray, List.set_cons_zero, List.set_cons_succ, i64_w, i32_w]
        rfl
      refine pure_ (i := 46) (N := some 88) (v := ?_) (a' := ?_) #[true, true, true, true, true, true, true, true, true, true, true, true, true, true, true, true, true, true, true, true, true, true, true, true, true, true, true, true, true, true, true, true, true, true, true, true, true, true, true, true, true, true, true, true, false, false, true, false, false, false, false, false] rfl rfl (by kernel_rfl) (fun _ _ _ h => h) (Or.inl ⟨by rfl, ?_⟩) ?_ ?_
      rotate_left
      · intro w'
        go_simp
        with_reducible rfl
      rotate_left
      · simp only [Act.put, List.setIfInBounds_toArray, List.set_cons_zero, List.set_cons_succ, i64_w, i32_w]
        rfl
      refine take_ (i := 44) (N := some 86) (v := ?_) (a' := ?_) #[true, true, true, true, true, true, true, true, true, true, true, true, true, true, true, true, true, true, true, true, true, true, true, true, true, true, true, true, true, true, true, true, true, true, true, true, true, true, true, true, true, true, true, true, true, false, true, false, false, false, false, false] rfl rfl (by kernel_rfl) (fun _ _ _ h => h) (Or.inl ⟨by rfl, ?_⟩) hHeld ?_ ?_
      rotate_left
      · rintro w' ⟨s0, s1, s2, s3, s4, s5, s6, s7, s8, s9, s10, s11, s12, s13, s14, s15, s16, s17⟩
        go_simp
        with_reducible rfl
      rotate_left
      · simp only [Act.put, List.setIfInBounds_toArray, List.set_cons_zero, List.set_cons_succ, i64_w, i32_w]
        rfl
      refine pure_ (i := 45) (N := some 87) (v := ?_) (a' := ?_) #[true, true, true, true, true, true, true, true, true, true, true, true, true, true, true, true, true, true, true, true, true, true, true, true, true, true, true, true, true, true, true, true, true, true, true, true, true, true, true, true, true, true, true, true, true, true, true, false, false, false, false, false] rfl rfl (by kernel_rfl) (fun _ _ _ h => h) (Or.inl ⟨by rfl, ?_⟩) ?_ ?_
      rotate_left
      · intro w'
        go_simp
        with_reducible rfl
      rotate_left
      · simp only [Act.put, List.setIfInBounds_toArray, List.set_cons_zero, List.set_cons_succ, i64_w, i32_w]
        rfl
      refine take_ (i := 47) (N := some 89) (v := ?_) (a' := ?_) #[true, true, true, true, true, true, true, true, true, true, true, true, true, true, true, true, true, true, true, true, true, true, true, true, true, true, true, true, true, true, true, true, true, true, true, true, true, true, true, true, true, true, true, true, true, true, true, true, false, false, false, false] rfl rfl (by kernel_rfl) (fun _ _ _ h => h) (Or.inl ⟨by rfl, ?_⟩) hHeld ?_ ?_
      rotate_left
      · rintro w' ⟨s0, s1, s2, s3, s4, s5, s6, s7, s8, s9, s10, s11, s12, s13, s14, s15, s16, s17⟩
        go_simp
        with_reducible rfl
      rotate_left
      · simp only [Act.put, List.setIfInBounds_toArray, List.set_cons_zero, List.set_cons_succ, i64_w, i32_w]
        rfl
      refine pure_ (i := 48) (N := some 90) (v := ?_) (a' := ?_) #[true, true, true, true, true, true, true, true, true, true, true, true, true, true, true, true, true, true, true, true, true, true, true, true, true, true, true, true, true, true, true, true, true, true, true, true, true, true, true, true, true, true, true, true, true, true, true, true, true, false, false, false] rfl rfl (by kernel_rfl) (fun _ _ _ h => h) (Or.inl ⟨by rfl, ?_⟩) ?_ ?_
      rotate_left
      · intro w'
        go_simp
        with_reducible rfl
      rotate_left
      · simp only [Act.put, List.setIfInBounds_toArray, List.set_cons_zero, List.set_cons_succ, i64_w, i32_w]
        rfl
      refine pure_ (i := 49) (N := some 91) (v := ?_) (a' := ?_) #[true, true, true, true, true, true, true, true, true, true, true, true, true, true, true, true, true, true, true, true, true, true, true, true, true, true, true, true, true, true, true, true, true, true, true, true, true, true, true, true, true, true, true, true, true, true, true, true, true, true, false, false] rfl rfl (by kernel_rfl) (fun _ _ _ h => h) (Or.inl ⟨by rfl, ?_⟩) ?_ ?_
      rotate_left
      · intro w'
        go_simp
        with_reducible rfl
      rotate_left
      · simp only [Act.put, List.setIfInBounds_toArray, List.set_cons_zero, List.set_cons_succ, i64_w, i32_w]
        rfl
      refine pure_ (i := 50) (N := some 92) (v := ?_) (a' := ?_) #[true, true, true, true, true, true, true, true, true, true, true, true, true, true, true, true, true, true, true, true, true, true, true, true, true, true, true, true, true, true, true, true, true, true, true, true, true, true, true, true, true, true, true, true, true, true, true, true, true, true, true, false] rfl rfl (by kernel_rfl) (fun _ _ _ h => h) (Or.inl ⟨by rfl, ?_⟩) ?_ ?_
      rotate_left
      · intro w'
        go_simp
        with_reducible rfl
      rotate_left
      · simp only [Act.put, List.setIfInBounds_toArray, List.set_cons_zero, List.set_cons_succ, i64_w, i32_w]
        rfl
      refine pure_ (i := 51) (N := some 4) (v := ?_) (a' := ?_) #[true, true, true, true, true, true, true, true, true, true, true, true, true, true, true, true, true, true, true, true, true, true, true, true, true, true, true, true, true, true, true, true, true, true, true, true, true, true, true, true, true, true, true, true, true, true, true, true, true, true, true, true] rfl rfl (by kernel_rfl) (fun _ _ _ h => h) (Or.inl ⟨by rfl, ?_⟩) ?_ ?_
      rotate_left
      · intro w'
        go_simp
        with_reducible rfl
      rotate_left
      · simp only [Act.put, List.setIfInBounds_toArray, List.set_cons_zero, List.set_cons_succ, i64_w, i32_w]
        rfl
      refine done_ (by kernel_rfl) ?_
      clear hHeld
      go_wp2_with fail
      go_ret
      exact ⟨rfl, B19.out⟩
    · have e2 : (h2 : Int) - (d2 : Int) = 1 := by omega
      clear hx1 hx2
      go_quiet (fail)
      clear e1 e2 x7 x8 x9 x10
      have KD := Lib.hid ((K13.out.dn nq).drew)
      have BD := Lib.hid (below_drew (below_dn B13.out nq))
      go_wp2_with fail
      refine start_ (n := 52) (S := fun w' => w'.cell? ⟨w2.heap.size, 0, none⟩ = some (.bool false) ∧ w'.cell? ⟨w2.heap.size, 1, none⟩ = some (.slice a1 q1 k1) ∧ w'.cell? ⟨w2.heap.size, 2, none⟩ = some (.slice b1 q1 v1) ∧ w'.cell? ⟨ya.heap.size, 0, none⟩ = some (.bool false) ∧ w'.cell? ⟨ya.heap.size, 1, none⟩ = some (.slice a2 q2 k2) ∧ w'.cell? ⟨ya.heap.size, 2, none⟩ = some (.slice b2 q2 v2) ∧ w'.cell? ⟨w7.heap.size, 0, none⟩ = some (.bool false) ∧ w'.cell? ⟨w7.heap.size, 1, none⟩ = some (.slice P1 h1 p1) ∧ w'.cell? ⟨w7.heap.size, 2, none⟩ = some (.slice P2 h1 p2) ∧ w'.cell? ⟨za.heap.size, 0, none⟩ = some (.bool false) ∧ w'.cell? ⟨za.heap.size, 1, none⟩ = some (.slice P3 d1 p3) ∧ w'.cell? ⟨za.heap.size, 2, none⟩ = some (.slice P4 d1 p4) ∧ w'.cell? ⟨w12.heap.size, 0, none⟩ = some (.bool false) ∧ w'.cell? ⟨w12.heap.size, 1, none⟩ = some (.slice S1 h2 s1) ∧ w'.cell? ⟨w12.heap.size, 2, none⟩ = some (.slice S2 h2 s2) ∧ w'.cell? ⟨xa.heap.size, 0, none⟩ = some (.bool false) ∧ w'.cell? ⟨xa.heap.size, 1, none⟩ = some (.slice S3 d2 s3) ∧ w'.cell? ⟨xa.heap.size, 2, none⟩ = some (.slice S4 d2 s4)) (ds := []) #[false, false, false, false, false, false, false, false, false, false, false, false, false, false, false, false, false, false, false, false, false, false, false, false, false, false, false, false, false, false, false, false, false, false, false, false, false, false, false, false, false, false, false, false, false, false, false, false, false, false, false, false] (by kernel_rfl) rfl rfl ⟨cell_row (KD.out.row 5 rfl) rfl, cell_row (KD.out.row 5 rfl) rfl, cell_row (KD.out.row 5 rfl) rfl, cell_row (KD.out.row 4 rfl) rfl, cell_row (KD.out.row 4 rfl) rfl, cell_row (KD.out.row 4 rfl) rfl, cell_row (KD.out.row 3 rfl) rfl, cell_row (KD.out.row 3 rfl) rfl, cell_row (KD.out.row 3 rfl) rfl, cell_row (KD.out.row 2 rfl) rfl, cell_row (KD.out.row 2 rfl) rfl, cell_row (KD.out.row 2 rfl) rfl, cell_row (KD.out.row 1 rfl) rfl, cell_row (KD.out.row 1 rfl) rfl, cell_row (KD.out.row 1 rfl) rfl, cell_row (KD.out.row 0 rfl) rfl, cell_row (KD.out.row 0 rfl) rfl, cell_row (KD.out.row 0 rfl) rfl⟩ (fun hHeld => ?_)
      refine one_ (i := 0) (N := some 42) #[true, false, false, false, false, false, false, false, false, false, false, false, false, false, false, false, false, false, false, false, false, false, false, false, false, false, false, false, false, false, false, false, false, false, false, false, false, false, false, false, false, false, false, false, false, false, false, false, false, false, false, false] rfl rfl (by kernel_rfl) (by decide) (fun K hK => ?_)
      refine goes_ Try.func16 (by kernel_rfl) rfl #[] (by rfl) rfl rfl (by simp only [List.map_toArray, List.map_cons, List.map_nil]) ?_
      with_reducible refine (awake_any _).mono ?_
      rintro e w14 ⟨rfl, hb⟩
      refine ⟨_, rfl, ?_⟩
      have K14 := Lib.hid (KD.out.below hb)
      have B14 := Lib.hid (below_then BD.out BD.out.size hb)
      clear hb
      refine hK.out _ _ ⟨cell_row (K14.out.row 5 rfl) rfl, cell_row (K14.out.row 5 rfl) rfl, cell_row (K14.out.row 5 rfl) rfl, cell_row (K14.out.row 4 rfl) rfl, cell_row (K14.out.row 4 rfl) rfl, cell_row (K14.out.row 4 rfl) rfl, cell_row (K14.out.row 3 rfl) rfl, cell_row (K14.out.row 3 rfl) rfl, cell_row (K14.out.row 3 rfl) rfl, cell_row (K14.out.row 2 rfl) rfl, cell_row (K14.out.row 2 rfl) rfl, cell_row (K14.out.row 2 rfl) rfl, cell_row (K14.out.row 1 rfl) rfl, cell_row (K14.out.row 1 rfl) rfl, cell_row (K14.out.row 1 rfl) rfl, cell_row (K14.out.row 0 rfl) rfl, cell_row (K14.out.row 0 rfl) rfl, cell_row (K14.out.row 0 rfl) rfl⟩ (fun hHeld => ?_)
      clear hK K
      refine norm_ (a' := ?_) ?_ ?_
      rotate_left
      · show Act.put _ (some 42) _ = _
        simp only [Act.put, List.setIfInBounds_toArray, List.set_cons_zero, List.set_cons_succ, i64_w, i32_w]
        rfl
      refine pure_ (i := 1) (N := some 43) (v := ?_) (a' := ?_) #[true, true, false, false, false, false, false, false, false, false, false, false, false, false, false, false, false, false, false, false, false, false, false, false, false, false, false, false, false, false, false, false, false, false, false, false, false, false, false, false, false, false, false, false, false, false, false, false, false, false, false, false] rfl rfl (by kernel_rfl) (fun _ _ _ h => h) (Or.inl ⟨by rfl, ?_⟩) ?_ ?_
      rotate_left
      · intro w'
        go_simp
        with_reducible rfl
      rotate_left
      · simp only [Act.put, List.setIfInBounds_toArray, List.set_cons_zero, List.set_cons_succ, i64_w, i32_w]
        rfl
      refine take_ (i := 2) (N := some 44) (v := ?_) (a' := ?_) #[true, true, true, false, false, false, false, false, false, false, false, false, false, false, false, false, false, false, false, false, false, false, false, false, false, false, false, false, false, false, false, false, false, false, false, false, false, false, false, false, false, false, false, false, false, false, false, false, false, false, false, false] rfl rfl (by kernel_rfl) (fun _ _ _ h => h) (Or.inl ⟨by rfl, ?_⟩) hHeld ?_ ?_
      rotate_left
      · rintro w' ⟨s0, s1, s2, s3, s4, s5, s6, s7, s8, s9, s10, s11, s12, s13, s14, s15, s16, s17⟩
        go_simp
        with_reducible rfl
      rotate_left
      · simp only [Act.put, List.setIfInBounds_toArray, List.set_cons_zero, List.set_cons_succ, i64_w, i32_w]
        rfl
      refine take_ (i := 3) (N := some 45) (v := ?_) (a' := ?_) #[true, true, true, true, false, false, false, false, false, false, false, false, false, false, false, false, false, false, false, false, false, false, false, false, false, false, false, false, false, false, false, false, false, false, false, false, false, false, false, false, false, false, false, false, false, false, false, false, false, false, false, false] rfl rfl (by kernel_rfl) (fun _ _ _ h => h) (Or.inl ⟨by rfl, ?_⟩) hHeld ?_ ?_
      rotate_left
      · rintro w' ⟨s0, s1, s2, s3, s4, s5, s6, s7, s8, s9, s10, s11, s12, s13, s14, s15, s16, s17⟩
        go_simp
        with_reducible rfl
      rotate_left
      · simp only [Act.put, List.setIfInBounds_toArray, List.set_cons_zero, List.set_cons_succ, i64_w, i32_w]
        rfl
      refine take_ (i := 5) (N := some 47) (v := ?_) (a' := ?_) #[true, true, true, true, false, true, false, false, false, false, false, false, false, false, false, false, false, false, false, false, false, false, false, false, false, false, false, false, false, false, false, false, false, false, false, false, false, false, false, false, false, false, false, false, false, false, false, false, false, false, false, false] rfl rfl (by kernel_rfl) (fun _ _ _ h => h) (Or.inl ⟨by rfl, ?_⟩) hHeld ?_ ?_
      rotate_left
      · rintro w' ⟨s0, s1, s2, s3, s4, s5, s6, s7, s8, s9, s10, s11, s12, s13, s14, s15, s16, s17⟩
        go_simp
        with_reducible rfl
      rotate_left
      · simp only [Act.put, List.setIfInBounds_toArray, List.set_cons_zero, List.set_cons_succ, i64_w, i32_w]
        rfl
      refine one_ (i := 4) (N := some 46) #[true, true, true, true, true, true, false, false, false, false, false, false, false, false, false, false, false, false, false, false, false, false, false, false, false, false, false, false, false, false, false, false, false, false, false, false, false, false, false, false, false, false, false, false, false, false, false, false, false, false, false, false] rfl rfl (by kernel_rfl) (by decide) (fun K hK => ?_)
      refine goes_ Try.func22 (by kernel_rfl) rfl #[.agg #[.bool false, .slice P1 h1 p1, .slice P2 h1 p2], .agg #[.bool false, .slice P3 d1 p3, .slice P4 d1 p4]] (by rfl) rfl rfl (by simp only [List.map_toArray, List.map_cons, List.map_nil]; rfl) ?_
      with_reducible refine (join_at false false (K1.take h1) ((places q1).take h1) (K1.drop h1) ((places q1).drop h1) P1 P2 P3 P4 h1 p1 h1 p2 d1 p3 d1 p4 h1 d1 q1 _ (K14.out.rd 7 rfl) (K14.out.rd 6 rfl) (K14.out.rd 5 rfl) (K14.out.rd 4 rfl) (Nat.min_self _) (Nat.min_self _) HS.out.1 ⟨O3.out.lk, O3.out.lv⟩ ⟨fun h => (O3.out.nk h).2, fun h => (O3.out.nv h).2⟩ ⟨O4.out.lk, O4.out.lv⟩ ⟨fun h => (O4.out.nk h).2, fun h => (O4.out.nv h).2⟩ HS.out.2.1).mono ?_
      rintro e w15 ⟨E1, u1, E2, u2, rfl, ho, hb⟩
      refine ⟨_, rfl, ?_⟩
      rw [J1.out.1, J1.out.2] at ho
      have O15 := Lib.hid ho
      clear ho
      have K15 := Lib.hid (K14.out.below hb)
      have B15 := Lib.hid (below_then B14.out B14.out.size hb)
      clear hb
      refine hK.out _ _ ⟨cell_row (K15.out.row 5 rfl) rfl, cell_row (K15.out.row 5 rfl) rfl, cell_row (K15.out.row 5 rfl) rfl, cell_row (K15.out.row 4 rfl) rfl, cell_row (K15.out.row 4 rfl) rfl, cell_row (K15.out.row 4 rfl) rfl, cell_row (K15.out.row 3 rfl) rfl, cell_row (K15.out.row 3 rfl) rfl, cell_row (K15.out.row 3 rfl) rfl, cell_row (K15.out.row 2 rfl) rfl, cell_row (K15.out.row 2 rfl) rfl, cell_row (K15.out.row 2 rfl) rfl, cell_row (K15.out.row 1 rfl) rfl, cell_row (K15.out.row 1 rfl) rfl, cell_row (K15.out.row 1 rfl) rfl, cell_row (K15.out.row 0 rfl) rfl, cell_row (K15.out.row 0 rfl) rfl, cell_row (K15.out.row 0 rfl) rfl⟩ (fun hHeld => ?_)
      clear hK K
      refine norm_ (a' := ?_) ?_ ?_
      rotate_left
      · show Act.put _ (some 46) _ = _
        simp only [Act.put, List.setIfInBounds_toArray, List.set_cons_zero, List.set_cons_succ, i64_w, i32_w]
        rfl
      refine one_ (i := 6) (N := some 48) #[true, true, true, true, true, true, true, false, false, false, false, false, false, false, false, false, false, false, false, false, false, false, false, false, false, false, false, false, false, false, false, false, false, false, false, false, false, false, false, false, false, false, false, false, false, false, false, false, false, false, false, false] rfl rfl (by kernel_rfl) (by decide) (fun K hK => ?_)
      refine goes_ Try.func26 (by kernel_rfl) rfl #[.agg #[.bool false, .slice E1 q1 u1, .slice E2 q1 u2], .agg #[.bool false, .slice a1 q1 k1, .slice b1 q1 v1]] (by rfl) rfl rfl (by simp only [List.map_toArray, List.map_cons, List.map_nil]; rfl) ?_
      with_reducible refine (rsame_true false K1 (places q1) K1 (places q1) E1 E2 a1 b1 q1 u1 q1 u2 q1 k1 q1 v1 _ (mine_reads O15.out.k) (mine_reads O15.out.v) (K15.out.rd 11 rfl) (K15.out.rd 10 rfl) rfl rfl).mono ?_
      rintro e w16 ⟨rfl, hb⟩
      refine ⟨_, rfl, ?_⟩
      have K16 := Lib.hid (K15.out.below hb)
      have B16 := Lib.hid (below_then B15.out B15.out.size hb)
      clear hb
      refine hK.out _ _ ⟨cell_row (K16.out.row 5 rfl) rfl, cell_row (K16.out.row 5 rfl) rfl, cell_row (K16.out.row 5 rfl) rfl, cell_row (K16.out.row 4 rfl) rfl, cell_row (K16.out.row 4 rfl) rfl, cell_row (K16.out.row 4 rfl) rfl, cell_row (K16.out.row 3 rfl) rfl, cell_row (K16.out.row 3 rfl) rfl, cell_row (K16.out.row 3 rfl) rfl, cell_row (K16.out.row 2 rfl) rfl, cell_row (K16.out.row 2 rfl) rfl, cell_row (K16.out.row 2 rfl) rfl, cell_row (K16.out.row 1 rfl) rfl, cell_row (K16.out.row 1 rfl) rfl, cell_row (K16.out.row 1 rfl) rfl, cell_row (K16.out.row 0 rfl) rfl, cell_row (K16.out.row 0 rfl) rfl, cell_row (K16.out.row 0 rfl) rfl⟩ (fun hHeld => ?_)
      clear hK K
      refine norm_ (a' := ?_) ?_ ?_
      rotate_left
      · show Act.put _ (some 48) _ = _
        simp only [Act.put, List.setIfInBounds_toArray, List.set_cons_zero, List.set_cons_succ, i64_w, i32_w]
        rfl
      refine pure_ (i := 7) (N := some 49) (v := ?_) (a' := ?_) #[true, true, true, true, true, true, true, true, false, false, false, false, false, false, false, false, false, false, false, false, false, false, false, false, false, false, false, false, false, false, false, false, false, false, false, false, false, false, false, false, false, false, false, false, false, false, false, false, false, false, false, false] rfl rfl (by kernel_rfl) (fun _ _ _ h => h) (Or.inl ⟨by rfl, ?_⟩) ?_ ?_
      rotate_left
      · intro w'
        go_simp
        with_reducible rfl
      rotate_left
      · simp only [Act.put, List.setIfInBounds_toArray, List.set_cons_zero, List.set_cons_succ, i64_w, i32_w]
        rfl
      refine pure_ (i := 8) (N := some 50) (v := ?_) (a' := ?_) #[true, true, true, true, true, true, true, true, true, false, false, false, false, false, false, false, false, false, false, false, false, false, false, false, false, false, false, false, false, false, false, false, false, false, false, false, false, false, false, false, false, false, false, false, false, false, false, false, false, false, false, false] rfl rfl (by kernel_rfl) (fun _ _ _ h => h) (Or.inl ⟨by rfl, ?_⟩) ?_ ?_
      rotate_left
      · intro w'
        go_simp
        with_reducible rfl
      rotate_left
      · simp only [Act.put, List.setIfInBounds_toArray, List.set_cons_zero, List.set_cons_succ, i64_w, i32_w]
        rfl
      refine pure_ (i := 9) (N := some 51) (v := ?_) (a' := ?_) #[true, true, true, true, true, true, true, true, true, true, false, false, false, false, false, false, false, false, false, false, false, false, false, false, false, false, false, false, false, false, false, false, false, false, false, false, false, false, false, false, false, false, false, false, false, false, false, false, false, false, false, false] rfl rfl (by kernel_rfl) (fun _ _ _ h => h) (Or.inl ⟨by rfl, ?_⟩) ?_ ?_
      rotate_left
      · intro w'
        go_simp
        with_reducible rfl
      rotate_left
      · simp only [Act.put, List.setIfInBounds_toArray, List.set_cons_zero, List.set_cons_succ, i64_w, i32_w]
        rfl
      refine pure_ (i := 10) (N := some 52) (v := ?_) (a' := ?_) #[true, true, true, true, true, true, true, true, true, true, true, false, false, false, false, false, false, false, false, false, false, false, false, false, false, false, false, false, false, false, false, false, false, false, false, false, false, false, false, false, false, false, false, false, false, false, false, false, false, false, false, false] rfl rfl (by kernel_rfl) (fun _ _ _ h => h) (Or.inl ⟨by rfl, ?_⟩) ?_ ?_
      rotate_left
      · intro w'
        go_simp
        with_reducible rfl
      rotate_left
      · simp only [Act.put, List.setIfInBounds_toArray, List.set_cons_zero, List.set_cons_succ, i64_w, i32_w]
        rfl
      refine pure_ (i := 11) (N := some 53) (v := ?_) (a' := ?_) #[true, true, true, true, true, true, true, true, true, true, true, true, false, false, false, false, false, false, false, false, false, false, false, false, false, false, false, false, false, false, false, false, false, false, false, false, false, false, false, false, false, false, false, false, false, false, false, false, false, false, false, false] rfl rfl (by kernel_rfl) (fun _ _ _ h => h) (Or.inl ⟨by rfl, ?_⟩) ?_ ?_
      rotate_left
      · intro w'
        go_simp
        with_reducible rfl
      rotate_left
      · simp only [Act.put, List.setIfInBounds_toArray, List.set_cons_zero, List.set_cons_succ, i64_w, i32_w]
        rfl
      refine pure_ (i := 12) (N := some 54) (v := ?_) (a' := ?_) #[true, true, true, true, true, true, true, true, true, true, true, true, true, false, false, false, false, false, false, false, false, false, false, false, false, false, false, false, false, false, false, false, false, false, false, false, false, false, false, false, false, false, false, false, false, false, false, false, false, false, false, false] rfl rfl (by kernel_rfl) (fun _ _ _ h => h) (Or.inl ⟨by rfl, ?_⟩) ?_ ?_
      rotate_left
      · intro w'
        go_simp
        with_reducible rfl
      rotate_left
      · simp only [Act.put, List.setIfInBounds_toArray, List.set_cons_zero, List.set_cons_succ, i64_w, i32_w]
        rfl
      refine pure_ (i := 13) (N := some 55) (v := ?_) (a' := ?_) #[true, true, true, true, true, true, true, true, true, true, true, true, true, true, false, false, false, false, false, false, false, false, false, false, false, false, false, false, false, false, false, false, false, false, false, false, false, false, false, false, false, false, false, false, false, false, false, false, false, false, false, false] rfl rfl (by kernel_rfl) (fun _ _ _ h => h) (Or.inl ⟨by rfl, ?_⟩) ?_ ?_
      rotate_left
      · intro w'
        go_simp
        with_reducible rfl
      rotate_left
      · simp only [Act.put, List.setIfInBounds_toArray, List.set_cons_zero, List.set_cons_succ, i64_w, i32_w]
        rfl
      refine pure_ (i := 14) (N := some 56) (v := ?_) (a' := ?_) #[true, true, true, true, true, true, true, true, true, true, true, true, true, true, true, false, false, false, false, false, false, false, false, false, false, false, false, false, false, false, false, false, false, false, false, false, false, false, false, false, false, false, false, false, false, false, false, false, false, false, false, false] rfl rfl (by kernel_rfl) (fun _ _ _ h => h) (Or.inl ⟨by rfl, ?_⟩) ?_ ?_
      rotate_left
      · intro w'
        go_simp
        with_reducible rfl
      rotate_left
      · simp only [Act.put, List.setIfInBounds_toArray, List.set_cons_zero, List.set_cons_succ, i64_w, i32_w]
        rfl
      refine pure_ (i := 15) (N := some 57) (v := ?_) (a' := ?_) #[true, true, true, true, true, true, true, true, true, true, true, true, true, true, true, true, false, false, false, false, false, false, false, false, false, false, false, false, false, false, false, false, false, false, false, false, false, false, false, false, false, false, false, false, false, false, false, false, false, false, false, false] rfl rfl (by kernel_rfl) (fun _ _ _ h => h) (Or.inl ⟨by rfl, ?_⟩) ?_ ?_
      rotate_left
      · intro w'
        go_simp
        with_reducible rfl
      rotate_left
      · simp only [Act.put, List.setIfInBounds_toArray, List.set_cons_zero, List.set_cons_succ, i64_w, i32_w]
        rfl
      refine pure_ (i := 16) (N := some 58) (v := ?_) (a' := ?_) #[true, true, true, true, true, true, true, true, true, true, true, true, true, true, true, true, true, false, false, false, false, false, false, false, false, false, false, false, false, false, false, false, false, false, false, false, false, false, false, false, false, false, false, false, false, false, false, false, false, false, false, false] rfl rfl (by kernel_rfl) (fun _ _ _ h => h) (Or.inl ⟨by rfl, ?_⟩) ?_ ?_
      rotate_left
      · intro w'
        go_simp
        with_reducible rfl
      rotate_left
      · simp only [Act.put, List.setIfInBounds_toArray, List.set_cons_zero, List.set_cons_succ, i64_w, i32_w]
        rfl
      refine pure_ (i := 17) (N := some 59) (v := ?_) (a' := ?_) #[true, true, true, true, true, true, true, true, true, true, true, true, true, true, true, true, true, true, false, false, false, false, false, false, false, false, false, false, false, false, false, false, false, false, false, false, false, false, false, false, false, false, false, false, false, false, false, false, false, false, false, false] rfl rfl (by kernel_rfl) (fun _ _ _ h => h) (Or.inl ⟨by rfl, ?_⟩) ?_ ?_
      rotate_left
      · intro w'
        go_simp
        with_reducible rfl
      rotate_left
      · simp only [Act.put, List.setIfInBounds_toArray, List.set_cons_zero, List.set_cons_succ, i64_w, i32_w]
        rfl
      refine pure_ (i := 18) (N := some 60) (v := ?_) (a' := ?_) #[true, true, true, true, true, true, true, true, true, true, true, true, true, true, true, true, true, true, true, false, false, false, false, false, false, false, false, false, false, false, false, false, false, false, false, false, false, false, false, false, false, false, false, false, false, false, false, false, false, false, false, false] rfl rfl (by kernel_rfl) (fun _ _ _ h => h) (Or.inl ⟨by rfl, ?_⟩) ?_ ?_
      rotate_left
      · intro w'
        go_simp
        with_reducible rfl
      rotate_left
      · simp only [Act.put, List.setIfInBounds_toArray, List.set_cons_zero, List.set_cons_succ, i64_w, i32_w]
        rfl
      refine pure_ (i := 19) (N := some 61) (v := ?_) (a' := ?_) #[true, true, true, true, true, true, true, true, true, true, true, true, true, true, true, true, true, true, true, true, false, false, false, false, false, false, false, false, false, false, false, false, false, false, false, false, false, false, false, false, false, false, false, false, false, false, false, false, false, false, false, false] rfl rfl (by kernel_rfl) (fun _ _ _ h => h) (Or.inl ⟨by rfl, ?_⟩) ?_ ?_
      rotate_left
      · intro w'
        go_simp
        with_reducible rfl
      rotate_left
      · simp only [Act.put, List.setIfInBounds_toArray, List.set_cons_zero, List.set_cons_succ, i64_w, i32_w]
        rfl
      refine pure_ (i := 20) (N := some 62) (v := ?_) (a' := ?_) #[true, true, true, true, true, true, true, true, true, true, true, true, true, true, true, true, true, true, true, true, true, false, false, false, false, false, false, false, false, false, false, false, false, false, false, false, false, false, false, false, false, false, false, false, false, false, false, false, false, false, false, false] rfl rfl (by kernel_rfl) (fun _ _ _ h => h) (Or.inl ⟨by rfl, ?_⟩) ?_ ?_
      rotate_left
      · intro w'
        go_simp
        with_reducible rfl
      rotate_left
      · simp only [Act.put, List.setIfInBounds_toArray, List.set_cons_zero, List.set_cons_succ, i64_w, i32_w]
        rfl
      refine pure_ (i := 21) (N := some 63) (v := ?_) (a' := ?_) #[true, true, true, true, true, true, true, true, true, true, true, true, true, true, true, true, true, true, true, true, true, true, false, false, false, false, false, false, false, false, false, false, false, false, false, false, false, false, false, false, false, false, false, false, false, false, false, false, false, false, false, false] rfl rfl (by kernel_rfl) (fun _ _ _ h => h) (Or.inl ⟨by rfl, ?_⟩) ?_ ?_
      rotate_left
      · intro w'
        go_simp
        with_reducible rfl
      rotate_left
      · simp only [Act.put, List.setIfInBounds_toArray, List.set_cons_zero, List.set_cons_succ, i64_w, i32_w]
        rfl
      refine pure_ (i := 22) (N := some 64) (v := ?_) (a' := ?_) #[true, true, true, true, true, true, true, true, true, true, true, true, true, true, true, true, true, true, true, true, true, true, true, false, false, false, false, false, false, false, false, false, false, false, false, false, false, false, false, false, false, false, false, false, false, false, false, false, false, false, false, false] rfl rfl (by kernel_rfl) (fun _ _ _ h => h) (Or.inl ⟨by rfl, ?_⟩) ?_ ?_
      rotate_left
      · intro w'
        go_simp
        with_reducible rfl
      rotate_left
      · simp only [Act.put, List.setIfInBounds_toArray, List.set_cons_zero, List.set_cons_succ, i64_w, i32_w]
        rfl
      refine pure_ (i := 23) (N := some 65) (v := ?_) (a' := ?_) #[true, true, true, true, true, true, true, true, true, true, true, true, true, true, true, true, true, true, true, true, true, true, true, true, false, false, false, false, false, false, false, false, false, false, false, false, false, false, false, false, false, false, false, false, false, false, false, false, false, false, false, false] rfl rfl (by kernel_rfl) (fun _ _ _ h => h) (Or.inl ⟨by rfl, ?_⟩) ?_ ?_
      rotate_left
      · intro w'
        go_simp
        with_reducible rfl
      rotate_left
      · simp only [Act.put, List.setIfInBounds_toArray, List.set_cons_zero, List.set_cons_succ, i64_w, i32_w]
        rfl
      refine pure_ (i := 24) (N := some 66) (v := ?_) (a' := ?_) #[true, true, true, true, true, true, true, true, true, true, true, true, true, true, true, true, true, true, true, true, true, true, true, true, true, false, false, false, false, false, false, false, false, false, false, false, false, false, false, false, false, false, false, false, false, false, false, false, false, false, false, false] rfl rfl (by kernel_rfl) (fun _ _ _ h => h) (Or.inl ⟨by rfl, ?_⟩) ?_ ?_
      rotate_left
      · intro w'
        go_simp
        with_reducible rfl
      rotate_left
      · simp only [Act.put, List.setIfInBounds_toArray, List.set_cons_zero, List.set_cons_succ, i64_w, i32_w]
        rfl
      refine take_ (i := 25) (N := some 67) (v := ?_) (a' := ?_) #[true, true, true, true, true, true, true, true, true, true, true, true, true, true, true, true, true, true, true, true, true, true, true, true, true, true, false, false, false, false, false, false, false, false, false, false, false, false, false, false, false, false, false, false, false, false, false, false, false, false, false, false] rfl rfl (by kernel_rfl) (fun _ _ _ h => h) (Or.inl ⟨by rfl, ?_⟩) hHeld ?_ ?_
      rotate_left
      · rintro w' ⟨s0, s1, s2, s3, s4, s5, s6, s7, s8, s9, s10, s11, s12, s13, s14, s15, s16, s17⟩
        go_simp
        with_reducible rfl
      rotate_left
      · simp only [Act.put, List.setIfInBounds_toArray, List.set_cons_zero, List.set_cons_succ, i64_w, i32_w]
        rfl
      refine take_ (i := 26) (N := some 68) (v := ?_) (a' := ?_) #[true, true, true, true, true, true, true, true, true, true, true, true, true, true, true, true, true, true, true, true, true, true, true, true, true, true, true, false, false, false, false, false, false, false, false, false, false, false, false, false, false, false, false, false, false, false, false, false, false, false, false, false] rfl rfl (by kernel_rfl) (fun _ _ _ h => h) (Or.inl ⟨by rfl, ?_⟩) hHeld ?_ ?_
      rotate_left
      · rintro w' ⟨s0, s1, s2, s3, s4, s5, s6, s7, s8, s9, s10, s11, s12, s13, s14, s15, s16, s17⟩
        go_simp
        with_reducible rfl
      rotate_left
      · simp only [Act.put, List.setIfInBounds_toArray, List.set_cons_zero, List.set_cons_succ, i64_w, i32_w]
        rfl
      refine take_ (i := 28) (N := some 70) (v := ?_) (a' := ?_) #[true, true, true, true, true, true, true, true, true, true, true, true, true, true, true, true, true, true, true, true, true, true, true, true, true, true, true, false, true, false, false, false, false, false, false, false, false, false, false, false, false, false, false, false, false, false, false, false, false, false, false, false] rfl rfl (by kernel_rfl) (fun _ _ _ h => h) (Or.inl ⟨by rfl, ?_⟩) hHeld ?_ ?_
      rotate_left
      · rintro w' ⟨s0, s1, s2, s3, s4, s5, s6, s7, s8, s9, s10, s11, s12, s13, s14, s15, s16, s17⟩
        go_simp
        with_reducible rfl
      rotate_left
      · simp only [Act.put, List.setIfInBounds_toArray, List.set_cons_zero, List.set_cons_succ, i64_w, i32_w]
        rfl
      refine take_ (i := 29) (N := some 71) (v := ?_) (a' := ?_) #[true, true, true, true, true, true, true, true, true, true, true, true, true, true, true, true, true, true, true, true, true, true, true, true, true, true, true, false, true, true, false, false, false, false, false, false, false, false, false, false, false, false, false, false, false, false, false, false, false, false, false, false] rfl rfl (by kernel_rfl) (fun _ _ _ h => h) (Or.inl ⟨by rfl, ?_⟩) hHeld ?_ ?_
      rotate_left
      · rintro w' ⟨s0, s1, s2, s3, s4, s5, s6, s7, s8, s9, s10, s11, s12, s13, s14, s15, s16, s17⟩
        go_simp
        with_reducible rfl
      rotate_left
      · simp only [Act.put, List.setIfInBounds_toArray, List.set_cons_zero, List.set_cons_succ, i64_w, i32_w]
        rfl
      refine one_ (i := 27) (N := some 69) #[true, true, true, true, true, true, true, true, true, true, true, true, true, true, true, true, true, true, true, true, true, true, true, true, true, true, true, true, true, true, false, false, false, false, false, false, false, false, false, false, false, false, false, false, false, false, false, false, false, false, false, false] rfl rfl (by kernel_rfl) (by decide) (fun K hK => ?_)
      refine goes_ Try.func22 (by kernel_rfl) rfl #[.agg #[.bool false, .slice S1 h2 s1, .slice S2 h2 s2], .agg #[.bool false, .slice S3 d2 s3, .slice S4 d2 s4]] (by rfl) rfl rfl (by simp only [List.map_toArray, List.map_cons, List.map_nil]; rfl) ?_
      with_reducible refine (join_at false false ((K1 ++ K2).take h2) ((places q1 ++ places q2).take h2) ((K1 ++ K2).drop h2) ((places q1 ++ places q2).drop h2) S1 S2 S3 S4 h2 s1 h2 s2 d2 s3 d2 s4 h2 d2 (q1 + q2) _ (K16.out.rd 3 rfl) (K16.out.rd 2 rfl) (K16.out.rd 1 rfl) (K16.out.rd 0 rfl) (Nat.min_self _) (Nat.min_self _) HS.out.2.2.1 ⟨O5.out.lk, O5.out.lv⟩ ⟨fun h => (O5.out.nk h).2, fun h => (O5.out.nv h).2⟩ ⟨O6.out.lk, O6.out.lv⟩ ⟨fun h => (O6.out.nk h).2, fun h => (O6.out.nv h).2⟩ HS.out.2.2.2).mono ?_
      rintro e w17 ⟨F1, t1, F2, t2, rfl, ho, hb⟩
      refine ⟨_, rfl, ?_⟩
      rw [J2.out.1, J2.out.2] at ho
      have O17 := Lib.hid ho
      clear ho
      have K17 := Lib.hid (K16.out.below hb)
      have B17 := Lib.hid (below_then B16.out B16.out.size hb)
      clear hb
      refine hK.out _ _ ⟨cell_row (K17.out.row 5 rfl) rfl, cell_row (K17.out.row 5 rfl) rfl, cell_row (K17.out.row 5 rfl) rfl, cell_row (K17.out.row 4 rfl) rfl, cell_row (K17.out.row 4 rfl) rfl, cell_row (K17.out.row 4 rfl) rfl, cell_row (K17.out.row 3 rfl) rfl, cell_row (K17.out.row 3 rfl) rfl, cell_row (K17.out.row 3 rfl) rfl, cell_row (K17.out.row 2 rfl) rfl, cell_row (K17.out.row 2 rfl) rfl, cell_row (K17.out.row 2 rfl) rfl, cell_row (K17.out.row 1 rfl) rfl, cell_row (K17.out.row 1 rfl) rfl, cell_row (K17.out.row 1 rfl) rfl, cell_row (K17.out.row 0 rfl) rfl, cell_row (K17.out.row 0 rfl) rfl, cell_row (K17.out.row 0 rfl) rfl⟩ (fun hHeld => ?_)
      clear hK K
      refine norm_ (a' := ?_) ?_ ?_
      rotate_left
      · show Act.put _ (some 69) _ = _
        simp only [Act.put, List.setIfInBounds_toArray, List.set_cons_zero, List.set_cons_succ, i64_w, i32_w]
        rfl
      refine one_ (i := 30) (N := some 72) #[true, true, true, true, true, true, true, true, true, true, true, true, true, true, true, true, true, true, true, true, true, true, true, true, true, true, true, true, true, true, true, false, false, false, false, false, false, false, false, false, false, false, false, false, false, false, false, false, false, false, false, false] rfl rfl (by kernel_rfl) (by decide) (fun K hK => ?_)
      refine goes_ Try.func22 (by kernel_rfl) rfl #[.agg #[.bool false, .slice a1 q1 k1, .slice b1 q1 v1], .agg #[.bool false, .slice a2 q2 k2, .slice b2 q2 v2]] (by rfl) rfl rfl (by simp only [List.map_toArray, List.map_cons, List.map_nil]; rfl) ?_
      with_reducible refine (join_at false false K1 (places q1) K2 (places q2) a1 b1 a2 b2 q1 k1 q1 v1 q2 k2 q2 v2 q1 q2 (q1 + q2) _ (K17.out.rd 11 rfl) (K17.out.rd 10 rfl) (K17.out.rd 9 rfl) (K17.out.rd 8 rfl) (Nat.min_self _) (Nat.min_self _) rfl ⟨O1.out.lk, O1.out.lv⟩ ⟨fun h => (O1.out.nk h).2, fun h => (O1.out.nv h).2⟩ ⟨O2.out.lk, O2.out.lv⟩ ⟨fun h => (O2.out.nk h).2, fun h => (O2.out.nv h).2⟩ HS.out.2.2.2).mono ?_
      rintro e w18 ⟨G1, r1, G2, r2, rfl, ho, hb⟩
      refine ⟨_, rfl, ?_⟩
      rw [T1.out.1, T1.out.2, T2.out.1, T2.out.2] at ho
      have O18 := Lib.hid ho
      have O17b := Lib.hid (own2_below O17.out hb)
      clear ho
      have K18 := Lib.hid (K17.out.below hb)
      have B18 := Lib.hid (below_then B17.out B17.out.size hb)
      clear hb
      refine hK.out _ _ ⟨cell_row (K18.out.row 5 rfl) rfl, cell_row (K18.out.row 5 rfl) rfl, cell_row (K18.out.row 5 rfl) rfl, cell_row (K18.out.row 4 rfl) rfl, cell_row (K18.out.row 4 rfl) rfl, cell_row (K18.out.row 4 rfl) rfl, cell_row (K18.out.row 3 rfl) rfl, cell_row (K18.out.row 3 rfl) rfl, cell_row (K18.out.row 3 rfl) rfl, cell_row (K18.out.row 2 rfl) rfl, cell_row (K18.out.row 2 rfl) rfl, cell_row (K18.out.row 2 rfl) rfl, cell_row (K18.out.row 1 rfl) rfl, cell_row (K18.out.row 1 rfl) rfl, cell_row (K18.out.row 1 rfl) rfl, cell_row (K18.out.row 0 rfl) rfl, cell_row (K18.out.row 0 rfl) rfl, cell_row (K18.out.row 0 rfl) rfl⟩ (fun hHeld => ?_)
      clear hK K
      refine norm_ (a' := ?_) ?_ ?_
      rotate_left
      · show Act.put _ (some 72) _ = _
        simp only [Act.put, List.setIfInBounds_toArray, List.set_cons_zero, List.set_cons_succ, i64_w, i32_w]
        rfl
      refine one_ (i := 31) (N := some 73) #[true, true, true, true, true, true, true, true, true, true, true, true, true, true, true, true, true, true, true, true, true, true, true, true, true, true, true, true, true, true, true, true, false, false, false, false, false, false, false, false, false, false, false, false, false, false, false, false, false, false, false, false] rfl rfl (by kernel_rfl) (by decide) (fun K hK => ?_)
      refine goes_ Try.func26 (by kernel_rfl) rfl #[.agg #[.bool false, .slice F1 (q1 + q2) t1, .slice F2 (q1 + q2) t2], .agg #[.bool false, .slice G1 (q1 + q2) r1, .slice G2 (q1 + q2) r2]] (by rfl) rfl rfl (by simp only [List.map_toArray, List.map_cons, List.map_nil]; rfl) ?_
      with_reducible refine (rsame_true false (K1 ++ K2) (places q1 ++ places q2) (K1 ++ K2) (places q1 ++ places q2) F1 F2 G1 G2 (q1 + q2) t1 (q1 + q2) t2 (q1 + q2) r1 (q1 + q2) r2 _ (mine_reads O17b.out.k) (mine_reads O17b.out.v) (mine_reads O18.out.k) (mine_reads O18.out.v) rfl rfl).mono ?_
      rintro e w19 ⟨rfl, hb⟩
      refine ⟨_, rfl, ?_⟩
      have K19 := Lib.hid (K18.out.below hb)
      have B19 := Lib.hid (below_then B18.out B18.out.size hb)
      clear hb
      refine hK.out _ _ ⟨cell_row (K19.out.row 5 rfl) rfl, cell_row (K19.out.row 5 rfl) rfl, cell_row (K19.out.row 5 rfl) rfl, cell_row (K19.out.row 4 rfl) rfl, cell_row (K19.out.row 4 rfl) rfl, cell_row (K19.out.row 4 rfl) rfl, cell_row (K19.out.row 3 rfl) rfl, cell_row (K19.out.row 3 rfl) rfl, cell_row (K19.out.row 3 rfl) rfl, cell_row (K19.out.row 2 rfl) rfl, cell_row (K19.out.row 2 rfl) rfl, cell_row (K19.out.row 2 rfl) rfl, cell_row (K19.out.row 1 rfl) rfl, cell_row (K19.out.row 1 rfl) rfl, cell_row (K19.out.row 1 rfl) rfl, cell_row (K19.out.row 0 rfl) rfl, cell_row (K19.out.row 0 rfl) rfl, cell_row (K19.out.row 0 rfl) rfl⟩ (fun hHeld => ?_)
      clear hK K
      refine norm_ (a' := ?_) ?_ ?_
      rotate_left
      · show Act.put _ (some 73) _ = _
        simp only [Act.put, List.setIfInBounds_toArray, List.set_cons_zero, List.set_cons_succ, i64_w, i32_w]
        rfl
      refine pure_ (i := 32) (N := some 74) (v := ?_) (a' := ?_) #[true, true, true, true, true, true, true, true, true, true, true, true, true, true, true, true, true, true, true, true, true, true, true, true, true, true, true, true, true, true, true, true, true, false, false, false, false, false, false, false, false, false, false, false, false, false, false, false, false, false, false, false] rfl rfl (by kernel_rfl) (fun _ _ _ h => h) (Or.inl ⟨by rfl, ?_⟩) ?_ ?_
      rotate_left
      · intro w'
        go_simp
        with_reducible rfl
      rotate_left
      · simp only [Act.put, List.setIfInBounds_toArray, List.set_cons_zero, List.set_cons_succ, i64_w, i32_w]
        rfl
      refine pure_ (i := 33) (N := some 75) (v := ?_) (a' := ?_) #[true, true, true, true, true, true, true, true, true, true, true, true, true, true, true, true, true, true, true, true, true, true, true, true, true, true, true, true, true, true, true, true, true, true, false, false, false, false, false, false, false, false, false, false, false, false, false, false, false, false, false, false] rfl rfl (by kernel_rfl) (fun _ _ _ h => h) (Or.inl ⟨by rfl, ?_⟩) ?_ ?_
      rotate_left
      · intro w'
        go_simp
        with_reducible rfl
      rotate_left
      · simp only [Act.put, List.setIfInBounds_toArray, List.set_cons_zero, List.set_cons_succ, i64_w, i32_w]
        rfl
      refine pure_ (i := 34) (N := some 76) (v := ?_) (a' := ?_) #[true, true, true, true, true, true, true, true, true, true, true, true, true, true, true, true, true, true, true, true, true, true, true, true, true, true, true, true, true, true, true, true, true, true, true, false, false, false, false, false, false, false, false, false, false, false, false, false, false, false, false, false] rfl rfl (by kernel_rfl) (fun _ _ _ h => h) (Or.inl ⟨by rfl, ?_⟩) ?_ ?_
      rotate_left
      · intro w'
        go_simp
        with_reducible rfl
      rotate_left
      · simp only [Act.put, List.setIfInBounds_toArray, List.set_cons_zero, List.set_cons_succ, i64_w, i32_w]
        rfl
      refine pure_ (i := 37) (N := some 79) (v := ?_) (a' := ?_) #[true, true, true, true, true, true, true, true, true, true, true, true, true, true, true, true, true, true, true, true, true, true, true, true, true, true, true, true, true, true, true, true, true, true, true, false, false, true, false, false, false, false, false, false, false, false, false, false, false, false, false, false] rfl rfl (by kernel_rfl) (fun _ _ _ h => h) (Or.inl ⟨by rfl, ?_⟩) ?_ ?_
      rotate_left
      · intro w'
        go_simp
        with_reducible rfl
      rotate_left
      · simp only [Act.put, List.setIfInBounds_toArray, List.set_cons_zero, List.set_cons_succ, i64_w, i32_w]
        rfl
      refine take_ (i := 35) (N := some 77) (v := ?_) (a' := ?_) #[true, true, true, true, true, true, true, true, true, true, true, true, true, true, true, true, true, true, true, true, true, true, true, true, true, true, true, true, true, true, true, true, true, true, true, true, false, true, false, false, false, false, false, false, false, false, false, false, false, false, false, false] rfl rfl (by kernel_rfl) (fun _ _ _ h => h) (Or.inl ⟨by rfl, ?_⟩) hHeld ?_ ?_
      rotate_left
      · rintro w' ⟨s0, s1, s2, s3, s4, s5, s6, s7, s8, s9, s10, s11, s12, s13, s14, s15, s16, s17⟩
        go_simp
        with_reducible rfl
      rotate_left
      · simp only [Act.put, List.setIfInBounds_toArray, List.set_cons_zero, List.set_cons_succ, i64_w, i32_w]
        rfl
      refine pure_ (i := 36) (N := some 78) (v := ?_) (a' := ?_) #[true, true, true, true, true, true, true, true, true, true, true, true, true, true, true, true, true, true, true, true, true, true, true, true, true, true, true, true, true, true, true, true, true, true, true, true, true, true, false, false, false, false, false, false, false, false, false, false, false, false, false, false] rfl rfl (by kernel_rfl) (fun _ _ _ h => h) (Or.inl ⟨by rfl, ?_⟩) ?_ ?_
      rotate_left
      · intro w'
        go_simp
        with_reducible rfl
      rotate_left
      · simp only [Act.put, List.setIfInBounds_toArray, List.set_cons_zero, List.set_cons_succ, i64_w, i32_w]
        rfl
      refine take_ (i := 38) (N := some 80) (v := ?_) (a' := ?_) #[true, true, true, true, true, true, true, true, true, true, true, true, true, true, true, true, true, true, true, true, true, true, true, true, true, true, true, true, true, true, true, true, true, true, true, true, true, true, true, false, false, false, false, false, false, false, false, false, false, false, false, false] rfl rfl (by kernel_rfl) (fun _ _ _ h => h) (Or.inl ⟨by rfl, ?_⟩) hHeld ?_ ?_
      rotate_left
      · rintro w' ⟨s0, s1, s2, s3, s4, s5, s6, s7, s8, s9, s10, s11, s12, s13, s14, s15, s16, s17⟩
        go_simp
        with_reducible rfl
      rotate_left
      · simp only [Act.put, List.setIfInBounds_toArray, List.set_cons_zero, List.set_cons_succ, i64_w, i32_w]
        rfl
      refine pure_ (i := 39) (N := some 81) (v := ?_) (a' := ?_) #[true, true, true, true, true, true, true, true, true, true, true, true, true, true, true, true, true, true, true, true, true, true, true, true, true, true, true, true, true, true, true, true, true, true, true, true, true, true, true, true, false, false, false, false, false, false, false, false, false, false, false, false] rfl rfl (by kernel_rfl) (fun _ _ _ h => h) (Or.inl ⟨by rfl, ?_⟩) ?_ ?_
      rotate_left
      · intro w'
        go_simp
        with_reducible rfl
      rotate_left
      · simp only [Act.put, List.setIfInBounds_toArray, List.set_cons_zero, List.set_cons_succ, i64_w, i32_w]
        rfl
      refine pure_ (i := 40) (N := some 82) (v := ?_) (a' := ?_) #[true, true, true, true, true, true, true, true, true, true, true, true, true, true, true, true, true, true, true, true, true, true, true, true, true, true, true, true, true, true, true, true, true, true, true, true, true, true, true, true, true, false, false, false, false, false, false, false, false, false, false, false] rfl rfl (by kernel_rfl) (fun _ _ _ h => h) (Or.inl ⟨by rfl, ?_⟩) ?_ ?_
      rotate_left
      · intro w'
        go_simp
        with_reducible rfl
      rotate_left
      · simp only [Act.put, List.setIfInBounds_toArray, List.set_cons_zero, List.set_cons_succ, i64_w, i32_w]
        rfl
      refine pure_ (i := 41) (N := some 83) (v := ?_) (a' := ?_) #[true, true, true, true, true, true, true, true, true, true, true, true, true, true, true, true, true, true, true, true, true, true, true, true, true, true, true, true, true, true, true, true, true, true, true, true, true, true, true, true, true, true, false, false, false, false, false, false, false, false, false, false] rfl rfl (by kernel_rfl) (fun _ _ _ h => h) (Or.inl ⟨by rfl, ?_⟩) ?_ ?_
      rotate_left
      · intro w'
        go_simp
        with_reducible rfl
      rotate_left
      · simp only [Act.put, List.setIfInBounds_toArray, List.set_cons_zero, List.set_cons_succ, i64_w, i32_w]
        rfl
      refine pure_ (i := 42) (N := some 84) (v := ?_) (a' := ?_) #[true, true, true, true, true, true, true, true, true, true, true, true, true, true, true, true, true, true, true, true, true, true, true, true, true, true, true, true, true, true, true, true, true, true, true, true, true, true, true, true, true, true, true, false, false, false, false, false, false, false, false, false] rfl rfl (by kernel_rfl) (fun _ _ _ h => h) (Or.inl ⟨by rfl, ?_⟩) ?_ ?_
      rotate_left
      · intro w'
        go_simp
        with_reducible rfl
      rotate_left
      · simp only [Act.put, List.setIfInBounds_toArray, List.set_cons_zero, List.set_cons_succ, i64_w, i32_w]
        rfl
      refine pure_ (i := 43) (N := some 85) (v := ?_) (a' := ?_) #[true, true, true, true, true, true, true, true, true, true, true, true, true, true, true, true, true, true, true, true, true, true, true, true, true, true, true, true, true, true, true, true, true, true, true, true, true, true, true, true, true, true, true, true, false, false, false, false, false, false, false, false] rfl rfl (by kernel_rfl) (fun _ _ _ h => h) (Or.inl ⟨by rfl, ?_⟩) ?_ ?_
      rotate_left
      · intro w'
        go_simp
        with_reducible rfl
      rotate_left
      · simp only [Act.put, List.setIfInBounds_toArray, List.set_cons_zero, List.set_cons_succ, i64_w, i32_w]
        rfl
      refine pure_ (i := 46) (N := some 88) (v := ?_) (a' := ?_) #[true, true, true, true, true, true, true, true, true, true, true, true, true, true, true, true, true, true, true, true, true, true, true, true, true, true, true, true, true, true, true, true, true, true, true, true, true, true, true, true, true, true, true, true, false, false, true, false, false, false, false, false] rfl rfl (by kernel_rfl) (fun _ _ _ h => h) (Or.inl ⟨by rfl, ?_⟩) ?_ ?_
      rotate_left
      · intro w'
        go_simp
        with_reducible rfl
      rotate_left
      · simp only [Act.put, List.setIfInBounds_toArray, List.set_cons_zero, List.set_cons_succ, i64_w, i32_w]
        rfl
      refine take_ (i := 44) (N := some 86) (v := ?_) (a' := ?_) #[true, true, true, true, true, true, true, true, true, true, true, true, true, true, true, true, true, true, true, true, true, true, true, true, true, true, true, true, true, true, true, true, true, true, true, true, true, true, true, true, true, true, true, true, true, false, true, false, false, false, false, false] rfl rfl (by kernel_rfl) (fun _ _ _ h => h) (Or.inl ⟨by rfl, ?_⟩) hHeld ?_ ?_
      rotate_left
      · rintro w' ⟨s0, s1, s2, s3, s4, s5, s6, s7, s8, s9, s10, s11, s12, s13, s14, s15, s16, s17⟩
        go_simp
        with_reducible rfl
      rotate_left
      · simp only [Act.put, List.setIfInBounds_toArray, List.set_cons_zero, List.set_cons_succ, i64_w, i32_w]
        rfl
      refine pure_ (i := 45) (N := some 87) (v := ?_) (a' := ?_) #[true, true, true, true, true, true, true, true, true, true, true, true, true, true, true, true, true, true, true, true, true, true, true, true, true, true, true, true, true, true, true, true, true, true, true, true, true, true, true, true, true, true, true, true, true, true, true, false, false, false, false, false] rfl rfl (by kernel_rfl) (fun _ _ _ h => h) (Or.inl ⟨by rfl, ?_⟩) ?_ ?_
      rotate_left
      · intro w'
        go_simp
        with_reducible rfl
      rotate_left
      · simp only [Act.put, List.setIfInBounds_toArray, List.set_cons_zero, List.set_cons_succ, i64_w, i32_w]
        rfl
      refine take_ (i := 47) (N := some 89) (v := ?_) (a' := ?_) #[true, true, true, true, true, true, true, true, true, true, true, true, true, true, true, true, true, true, true, true, true, true, true, true, true, true, true, true, true, true, true, true, true, true, true, true, true, true, true, true, true, true, true, true, true, true, true, true, false, false, false, false] rfl rfl (by kernel_rfl) (fun _ _ _ h => h) (Or.inl ⟨by rfl, ?_⟩) hHeld ?_ ?_
      rotate_left
      · rintro w' ⟨s0, s1, s2, s3, s4, s5, s6, s7, s8, s9, s10, s11, s12, s13, s14, s15, s16, s17⟩
        go_simp
        with_reducible rfl
      rotate_left
      · simp only [Act.put, List.setIfInBounds_toArray, List.set_cons_zero, List.set_cons_succ, i64_w, i32_w]
        rfl
      refine pure_ (i := 48) (N := some 90) (v := ?_) (a' := ?_) #[true, true, true, true, true, true, true, true, true, true, true, true, true, true, true, true, true, true, true, true, true, true, true, true, true, true, true, true, true, true, true, true, true, true, true, true, true, true, true, true, true, true, true, true, true, true, true, true, true, false, false, false] rfl rfl (by kernel_rfl) (fun _ _ _ h => h) (Or.inl ⟨by rfl, ?_⟩) ?_ ?_
      rotate_left
      · intro w'
        go_simp
        with_reducible rfl
      rotate_left
      · simp only [Act.put, List.setIfInBounds_toArray, List.set_cons_zero, List.set_cons_succ, i64_w, i32_w]
        rfl
      refine pure_ (i := 49) (N := some 91) (v := ?_) (a' := ?_) #[true, true, true, true, true, true, true, true, true, true, true, true, true, true, true, true, true, true, true, true, true, true, true, true, true, true, true, true, true, true, true, true, true, true, true, true, true, true, true, true, true, true, true, true, true, true, true, true, true, true, false, false] rfl rfl (by kernel_rfl) (fun _ _ _ h => h) (Or.inl ⟨by rfl, ?_⟩) ?_ ?_
      rotate_left
      · intro w'
        go_simp
        with_reducible rfl
      rotate_left
      · simp only [Act.put, List.setIfInBounds_toArray, List.set_cons_zero, List.set_cons_succ, i64_w, i32_w]
        rfl
      refine pure_ (i := 50) (N := some 92) (v := ?_) (a' := ?_) #[true, true, true, true, true, true, true, true, true, true, true, true, true, true, true, true, true, true, true, true, true, true, true, true, true, true, true, true, true, true, true, true, true, true, true, true, true, true, true, true, true, true, true, true, true, true, true, true, true, true, true, false] rfl rfl (by kernel_rfl) (fun _ _ _ h => h) (Or.inl ⟨by rfl, ?_⟩) ?_ ?_
      rotate_left
      · intro w'
        go_simp
        with_reducible rfl
      rotate_left
      · simp only [Act.put, List.setIfInBounds_toArray, List.set_cons_zero, List.set_cons_succ, i64_w, i32_w]
        rfl
      refine pure_ (i := 51) (N := some 4) (v := ?_) (a' := ?_) #[true, true, true, true, true, true, true, true, true, true, true, true, true, true, true, true, true, true, true, true, true, true, true, true, true, true, true, true, true, true, true, true, true, true, true, true, true, true, true, true, true, true, true, true, true, true, true, true, true, true, true, true] rfl rfl (by kernel_rfl) (fun _ _ _ h => h) (Or.inl ⟨by rfl, ?_⟩) ?_ ?_
      rotate_left
      · intro w'
        go_simp
        with_reducible rfl
      rotate_left
      · simp only [Act.put, List.setIfInBounds_toArray, List.set_cons_zero, List.set_cons_succ, i64_w, i32_w]
        rfl
      refine done_ (by kernel_rfl) ?_
      clear hHeld
      go_wp2_with fail
      go_ret
      exact ⟨rfl, B19.out⟩
end Go.Proofs.Ytdekplalhfpooaa.Knt
