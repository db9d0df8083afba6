/- Knots: Insert, Set, Remove, by their contracts (every input). -/
import Derived.BigQuiet
import Derived.Test.YtdekplalhfpooaaKntX
set_option linter.unusedVariables false
set_option linter.unusedSimpArgs false
namespace Go.Proofs.Ytdekplalhfpooaa.Knt
open Go Go.RowKit Go.Proofs.YtdekplalhfpooaaW.PrintWords Go.Proofs.YtdekplalhfpooaaW.PrintLast Go.Proofs.YtdekplalhfpooaaW.PrintMore Base Odr Hlp Nod Go.Proofs.Ytdekplalhfpooaa.Inv

/-- One in the place of another one; one put in; one taken out. -/
def setL (xs : List Int) (at_ : Int) (x : Int) : List Int := if 0 ≤ at_ ∧ at_ < xs.length then xs.take at_.toNat ++ x :: xs.drop (at_.toNat + 1) else xs
def insL (xs : List Int) (at_ : Int) (x : Int) : List Int := xs.take (min at_.toNat xs.length) ++ x :: xs.drop (min at_.toNat xs.length)
def remL (xs : List Int) (at_ : Int) : List Int := if 0 ≤ at_ ∧ at_ < xs.length then xs.take at_.toNat ++ xs.drop (at_.toNat + 1) else xs
def remN (n : Nat) (at_ : Int) : Nat := if 0 ≤ at_ ∧ at_ < n then n - 1 else n
theorem setL_len (xs : List Int) (at_ x : Int) : (setL xs at_ x).length = xs.length := by
  unfold setL
  split
  · rw [List.length_append, List.length_cons, List.length_take, List.length_drop]; omega
  · rfl
theorem insL_len (xs : List Int) (at_ x : Int) : (insL xs at_ x).length = xs.length + 1 := by
  unfold insL
  rw [List.length_append, List.length_cons, List.length_take, List.length_drop]; omega
theorem remL_len (xs : List Int) (at_ : Int) : (remL xs at_).length = remN xs.length at_ := by
  unfold remL remN
  split
  · rw [List.length_append, List.length_take, List.length_drop]; omega
  · rfl
theorem set_any (b : Bool) (A : Option Addr) (c q ga gk gv base : Nat) (Ks : List Int) (key val y at_ : Int) (w : World) (ho : w.ownsRow base 25 1 (.slice A q c) q (nums .u64 Ks)) (hK : Ks.length = q) (hga : w.heap[ga]? = some (.cells #[.int .i64 at_] 3)) (hgk : w.heap[gk]? = some (.cells #[.int .u64 key] 25)) (hgv : w.heap[gv]? = some (.cells #[.int .u64 val] 25)) (hy : (if b = true then key else val) = y) (hb : base ≤ w.heap.size) :
    Calls Try.prog 61 #[.slice A q c, .bool b, .pointer (some ⟨ga, 0, none⟩), .pointer (some ⟨gk, 0, none⟩), .pointer (some ⟨gv, 0, none⟩)] w fun e w' => INS w w' e base (Value.slice A q c).ownBlock q (setL Ks at_ y) := by
  by_cases h : 0 ≤ at_ ∧ at_ < (q : Int)
  · obtain ⟨i, rfl⟩ := Int.eq_ofNat_of_zero_le h.1
    have e : setL Ks (i : Int) y = Ks.take i ++ y :: Ks.drop (i + 1) := by unfold setL; rw [if_pos (by rw [hK]; exact h), Int.toNat_natCast]
    rw [e]
    exact set_in b A c q i ga gk gv base Ks key val y w ho hK hga hgk hgv hy (by omega) hb
  · have e : setL Ks at_ y = Ks := by unfold setL; rw [if_neg (by rw [hK]; exact h)]
    rw [e]
    refine (set_out b A c q ga gk gv at_ w hga (by omega)).mono ?_
    rintro e w' ⟨rfl, rfl⟩
    exact ins_same ho
theorem rem_any (b : Bool) (A : Option Addr) (c q ga base : Nat) (Ks : List Int) (at_ : Int) (w : World) (ho : w.ownsRow base 25 1 (.slice A q c) q (nums .u64 Ks)) (hK : Ks.length = q) (hga : w.heap[ga]? = some (.cells #[.int .i64 at_] 3)) (hs : q < 17592186044417) (hb : base ≤ w.heap.size) :
    Calls Try.prog 62 #[.slice A q c, .bool b, .pointer (some ⟨ga, 0, none⟩)] w fun e w' => INS w w' e base (Value.slice A q c).ownBlock (remN q at_) (remL Ks at_) := by
  by_cases h : 0 ≤ at_ ∧ at_ < (q : Int)
  · obtain ⟨i, rfl⟩ := Int.eq_ofNat_of_zero_le h.1
    obtain ⟨d, rfl⟩ : ∃ d, q = d + 1 := ⟨q - 1, by omega⟩
    have e : remL Ks (i : Int) = Ks.take i ++ Ks.drop (i + 1) := by unfold remL; rw [if_pos (by rw [hK]; exact h), Int.toNat_natCast]
    have e2 : remN (d + 1) (i : Int) = d := by unfold remN; rw [if_pos h]; rfl
    rw [e, e2]
    exact rem_in b A c d i ga base Ks w ho hK hga (by omega) (by omega) hb
  · have e : remL Ks at_ = Ks := by unfold remL; rw [if_neg (by rw [hK]; exact h)]
    have e2 : remN q at_ = q := by unfold remN; rw [if_neg h]
    rw [e, e2]
    refine (rem_out b A c q ga at_ w hga (by omega)).mono ?_
    rintro e w' ⟨rfl, rfl⟩
    exact ins_same ho
theorem insc_any (b : Bool) (A : Option Addr) (c q i ga gk gv base : Nat) (Ks : List Int) (key val y at_ : Int) (w : World) (ho : w.ownsRow base 25 1 (.slice A q c) q (nums .u64 Ks)) (hK : Ks.length = q) (hi : min at_.toNat q = i) (hga : w.heap[ga]? = some (.cells #[.int .i64 (i : Int)] 3)) (hgk : w.heap[gk]? = some (.cells #[.int .u64 key] 25)) (hgv : w.heap[gv]? = some (.cells #[.int .u64 val] 25)) (hy : (if b = true then key else val) = y) (hb : base ≤ w.heap.size) (hs : (q + 1) * 8 ≤ 140737488355328) :
    Calls Try.prog 58 #[.slice A q c, .bool b, .pointer (some ⟨ga, 0, none⟩), .pointer (some ⟨gk, 0, none⟩), .pointer (some ⟨gv, 0, none⟩)] w fun e w' => INS w w' e base (Value.slice A q c).ownBlock (q + 1) (insL Ks at_ y) := by
  have e : insL Ks at_ y = Ks.take i ++ y :: Ks.drop i := by unfold insL; rw [hK, hi]
  rw [e]
  exact ins_c b A c q i ga gk gv base Ks key val y w ho hK hga hgk hgv hy (by omega) hb hs
set_option maxRecDepth 100000 in
set_option maxHeartbeats 3200000 in
theorem set_at (L : Bool) (Ks Vs xs ys : List Int) (ak av : Option Addr) (nk ck nv cv m : Nat) (at_ key val : Int) (w : World) (HK : ReadsInt w .u64 ak nk Ks) (HV : ReadsInt w .u64 av nv Vs) (hm : min nk nv = m) (hx : setL (Ks.take m) at_ key = xs) (hy : setL (Vs.take m) at_ val = ys) (hk : nk ≤ ck ∧ nv ≤ cv) (hn : (ak = none → ck = 0) ∧ (av = none → cv = 0)) (hs : m * 8 ≤ 140737488355328) :
    Calls Try.prog 39 #[.agg #[.bool L, .slice ak nk ck, .slice av nv cv], .int .i64 at_, .int .u64 key, .int .u64 val] w fun e w' => N1 w w' e L m m xs ys := by
  obtain ⟨w1, hw1, b1, f1, s1⟩ := made w #[.bool L, .slice ak nk ck, .slice av nv cv] 24
  obtain ⟨w2, hw2, b2, f2, s2⟩ := made w1 #[.int .i64 at_] 3
  obtain ⟨w3, hw3, b3, f3, s3⟩ := made w2 #[.int .u64 key] 25
  obtain ⟨w4, hw4, b4, f4, s4⟩ := made w3 #[.int .u64 val] 25
  obtain ⟨w5, hw5, b5, f5, s5⟩ := made w4 #[.bool false, .slice none 0 0, .slice none 0 0] 24
  have b25 := below_then' (below_then' (below_then' b2 b3) b4) b5
  have B5 := Lib.hid (below_then' b1 b25)
  have P5 := Lib.hid (keep_row f1 b25)
  have E1 := Lib.hid (keep_row f2 (below_then' (below_then' b3 b4) b5))
  have E2 := Lib.hid (keep_row f3 (below_then' b4 b5))
  have E3 := Lib.hid (keep_row f4 b5)
  have Q5 := Lib.hid f5
  have SZ := Lib.hid (show w.heap.size ≤ w4.heap.size ∧ w4.heap.size < w5.heap.size by omega)
  have RK := Lib.hid (And.intro (HK.below B5.out) (HV.below B5.out))
  have HM := Lib.hid (And.intro hm (And.intro hk (And.intro hn hs)))
  have HLK := Lib.hid (show (Ks.take m).length = m by rw [List.length_take, HK.1]; omega)
  have HLV := Lib.hid (show (Vs.take m).length = m by rw [List.length_take, HV.1]; omega)
  have HX := Lib.hid (And.intro hx hy)
  clear b1 f1 s1 b2 f2 s2 b3 f3 s3 b4 f4 s4 b5 f5 s5 b25 HK HV hm hk hn hs hx hy
  go_enter Try.func39, Try.ntmps39
  go_wp2_with ((with_reducible refine wpList_load_row rfl 24 (.tmp 4) rfl w.heap.size ?_ 24 _ _ _ P5.out Try.underlying24 ?_ (size3 _ _ _) ?_); rfl; rfl)
  clear hw1 hw2 hw3 hw4 hw5
  refine (both_g L Ks Vs ak av nk ck nv cv m 61 _ #[.pointer (some ⟨w1.heap.size, 0, none⟩), .pointer (some ⟨w2.heap.size, 0, none⟩), .pointer (some ⟨w3.heap.size, 0, none⟩)] m xs ys _ RK.out.1 RK.out.2 HM.out.1 Try.func61 (by kernel_rfl) rfl (by rw [← HX.out.1, setL_len, HLK.out]) (by rw [← HX.out.2, setL_len, HLV.out])
    (fun A c base W hb hbase ho => by rw [← HX.out.1]; exact set_any true A c m _ _ _ base (Ks.take m) key val key at_ W ho HLK.out (keep_row E1.out hb) (keep_row E2.out hb) (keep_row E3.out hb) rfl hbase)
    (fun A c base W hb hbase ho => by rw [← HX.out.2]; exact set_any false A c m _ _ _ base (Vs.take m) key val val at_ W ho HLV.out (keep_row E1.out hb) (keep_row E2.out hb) (keep_row E3.out hb) rfl hbase)
    HM.out.2.1 HM.out.2.2.1.1 HM.out.2.2.1.2 HM.out.2.2.2).mono ?_; rintro e w6 h6
  obtain ⟨A6, c6, B6, d6, rfl, ho, hb⟩ := nb_own h6
  have OW6 := Lib.hid ho
  have Q6 := Lib.hid (keep_row Q5.out hb)
  have BB6 := Lib.hid (below_then' B5.out hb)
  have SZ6 := Lib.hid (show w4.heap.size < w5.heap.size ∧ w.heap.size ≤ w5.heap.size ∧ w.heap.size ≤ w4.heap.size from ⟨SZ.out.2, by have := SZ.out; omega, SZ.out.1⟩)
  clear h6 ho hb
  go_wp2_with ((with_reducible refine wpList_store_row rfl 24 (.tmp 8) (.tmp 11) rfl w4.heap.size #[.bool L, .slice A6 m c6, .slice B6 m d6] ?_ ?_ 24 _ Q6.out (size3 _ _ _) ?_ (one3 _ _ _ _ _ _ _) ?_); rfl; rfl; rfl)
  exact ret_c 8 rfl w4.heap.size #[.bool L, .slice A6 m c6, .slice B6 m d6] (0, 0) rfl (setRow_heap _ _ _ _ _ _ Q6.out) rfl rfl ⟨A6, c6, B6, d6, rfl, own2_weaken (own2_setRow OW6.out SZ6.out.1 _) SZ6.out.2.1, below_setRow BB6.out SZ6.out.2.2 _⟩
set_option maxRecDepth 100000 in
set_option maxHeartbeats 3200000 in
theorem rem_at (L : Bool) (Ks Vs xs ys : List Int) (ak av : Option Addr) (nk ck nv cv m q : Nat) (at_ : Int) (w : World) (HK : ReadsInt w .u64 ak nk Ks) (HV : ReadsInt w .u64 av nv Vs) (hm : min nk nv = m) (hx : remL (Ks.take m) at_ = xs) (hy : remL (Vs.take m) at_ = ys) (hq : remN m at_ = q) (hk : nk ≤ ck ∧ nv ≤ cv) (hn : (ak = none → ck = 0) ∧ (av = none → cv = 0)) (hs : m * 8 ≤ 140737488355328) :
    Calls Try.prog 40 #[.agg #[.bool L, .slice ak nk ck, .slice av nv cv], .int .i64 at_] w fun e w' => N1 w w' e L q q xs ys := by
  obtain ⟨w1, hw1, b1, f1, s1⟩ := made w #[.bool L, .slice ak nk ck, .slice av nv cv] 24
  obtain ⟨w2, hw2, b2, f2, s2⟩ := made w1 #[.int .i64 at_] 3
  obtain ⟨w5, hw5, b5, f5, s5⟩ := made w2 #[.bool false, .slice none 0 0, .slice none 0 0] 24
  have b25 := below_then' b2 b5
  have B5 := Lib.hid (below_then' b1 b25)
  have P5 := Lib.hid (keep_row f1 b25)
  have E1 := Lib.hid (keep_row f2 b5)
  have Q5 := Lib.hid f5
  have SZ := Lib.hid (show w.heap.size ≤ w2.heap.size ∧ w2.heap.size < w5.heap.size by omega)
  have RK := Lib.hid (And.intro (HK.below B5.out) (HV.below B5.out))
  have HM := Lib.hid (And.intro hm (And.intro hk (And.intro hn hs)))
  have HLK := Lib.hid (show (Ks.take m).length = m by rw [List.length_take, HK.1]; omega)
  have HLV := Lib.hid (show (Vs.take m).length = m by rw [List.length_take, HV.1]; omega)
  have HX := Lib.hid (And.intro hx (And.intro hy hq))
  clear b1 f1 s1 b2 f2 s2 hq b5 f5 s5 b25 HK HV hm hk hn hs hx hy
  go_enter Try.func40, Try.ntmps40
  go_wp2_with ((with_reducible refine wpList_load_row rfl 24 (.tmp 2) rfl w.heap.size ?_ 24 _ _ _ P5.out Try.underlying24 ?_ (size3 _ _ _) ?_); rfl; rfl)
  clear hw1 hw2 hw5
  refine (both_g L Ks Vs ak av nk ck nv cv m 62 _ #[.pointer (some ⟨w1.heap.size, 0, none⟩)] q xs ys _ RK.out.1 RK.out.2 HM.out.1 Try.func62 (by kernel_rfl) rfl (by rw [← HX.out.1, remL_len, HLK.out, HX.out.2.2]) (by rw [← HX.out.2.1, remL_len, HLV.out, HX.out.2.2])
    (fun A c base W hb hbase ho => by rw [← HX.out.1, ← HX.out.2.2]; exact rem_any true A c m _ base (Ks.take m) at_ W ho HLK.out (keep_row E1.out hb) (by have := HM.out.2.2.2; omega) hbase)
    (fun A c base W hb hbase ho => by rw [← HX.out.2.1, ← HX.out.2.2]; exact rem_any false A c m _ base (Vs.take m) at_ W ho HLV.out (keep_row E1.out hb) (by have := HM.out.2.2.2; omega) hbase)
    HM.out.2.1 HM.out.2.2.1.1 HM.out.2.2.1.2 HM.out.2.2.2).mono ?_; rintro e w6 h6
  obtain ⟨A6, c6, B6, d6, rfl, ho, hb⟩ := nb_own h6
  have OW6 := Lib.hid ho
  have Q6 := Lib.hid (keep_row Q5.out hb)
  have BB6 := Lib.hid (below_then' B5.out hb)
  have SZ6 := Lib.hid (show w2.heap.size < w5.heap.size ∧ w.heap.size ≤ w5.heap.size ∧ w.heap.size ≤ w2.heap.size from ⟨SZ.out.2, by have := SZ.out; omega, SZ.out.1⟩)
  clear h6 ho hb
  go_wp2_with ((with_reducible refine wpList_store_row rfl 24 (.tmp 4) (.tmp 7) rfl w2.heap.size #[.bool L, .slice A6 q c6, .slice B6 q d6] ?_ ?_ 24 _ Q6.out (size3 _ _ _) ?_ (one3 _ _ _ _ _ _ _) ?_); rfl; rfl; rfl)
  exact ret_c 4 rfl w2.heap.size #[.bool L, .slice A6 q c6, .slice B6 q d6] (0, 0) rfl (setRow_heap _ _ _ _ _ _ Q6.out) rfl rfl ⟨A6, c6, B6, d6, rfl, own2_weaken (own2_setRow OW6.out SZ6.out.1 _) SZ6.out.2.1, below_setRow BB6.out SZ6.out.2.2 _⟩
set_option maxRecDepth 100000 in
set_option maxHeartbeats 3200000 in
theorem inst_at (L : Bool) (Ks Vs xs ys : List Int) (ak av : Option Addr) (nk ck nv cv m i : Nat) (at_ key val : Int) (w : World) (HK : ReadsInt w .u64 ak nk Ks) (HV : ReadsInt w .u64 av nv Vs) (hm : min nk nv = m) (hx : insL (Ks.take m) at_ key = xs) (hy : insL (Vs.take m) at_ val = ys) (hi : min at_.toNat m = i) (hk : nk ≤ ck ∧ nv ≤ cv) (hn : (ak = none → ck = 0) ∧ (av = none → cv = 0)) (hs : (m + 1) * 8 ≤ 140737488355328) :
    Calls Try.prog 38 #[.agg #[.bool L, .slice ak nk ck, .slice av nv cv], .int .i64 at_, .int .u64 key, .int .u64 val] w fun e w' => N1 w w' e L (m + 1) (m + 1) xs ys := by
  obtain ⟨w1, hw1, b1, f1, s1⟩ := made w #[.bool L, .slice ak nk ck, .slice av nv cv] 24
  obtain ⟨w2, hw2, b2, f2, s2⟩ := made w1 #[.int .i64 at_] 3
  obtain ⟨w3, hw3, b3, f3, s3⟩ := made w2 #[.int .u64 key] 25
  obtain ⟨w4, hw4, b4, f4, s4⟩ := made w3 #[.int .u64 val] 25
  obtain ⟨w5, hw5, b5, f5, s5⟩ := made w4 #[.bool false, .slice none 0 0, .slice none 0 0] 24
  have b25 := below_then' (below_then' (below_then' b2 b3) b4) b5
  have B5 := Lib.hid (below_then' b1 b25)
  have P5 := Lib.hid (keep_row f1 b25)
  have E1 := Lib.hid (keep_row f2 (below_then' (below_then' b3 b4) b5))
  have E2 := Lib.hid (keep_row f3 (below_then' b4 b5))
  have E3 := Lib.hid (keep_row f4 b5)
  have Q5 := Lib.hid f5
  have SZ := Lib.hid (show w.heap.size ≤ w4.heap.size ∧ w4.heap.size < w5.heap.size by omega)
  have RK := Lib.hid (And.intro HK HV)
  have SY := Lib.hid (show w.heap.size < w1.heap.size ∧ w1.heap.size < w2.heap.size ∧ w2.heap.size < w3.heap.size ∧ w3.heap.size < w4.heap.size by omega)
  have HN := Lib.hid (And.intro HK.2.1 HV.2.1)
  have HM := Lib.hid (And.intro hm (And.intro hk (And.intro hn hs)))
  have HLK := Lib.hid (show (Ks.take m).length = m by rw [List.length_take, HK.1]; omega)
  have HLV := Lib.hid (show (Vs.take m).length = m by rw [List.length_take, HV.1]; omega)
  have HX := Lib.hid (And.intro hx (And.intro hy hi))
  clear b1 f1 s1 b2 f2 s2 b3 f3 s3 b4 f4 s4 b5 f5 s5 b25 HK HV hm hk hn hs hx hy hi
  go_enter Try.func38, Try.ntmps38
  go_wp2_with fail
  clear hw1 hw2 hw3 hw4 hw5
  refine start_ (n := 6) (S := fun w' => w'.cell? ⟨w1.heap.size, 0, none⟩ = some (.int .i64 at_) ∧ w'.cell? ⟨w.heap.size, 0, none⟩ = some (.bool L) ∧ w'.cell? ⟨w.heap.size, 1, none⟩ = some (.slice ak nk ck) ∧ w'.cell? ⟨w.heap.size, 2, none⟩ = some (.slice av nv cv)) (ds := [5]) #[false, false, false, false, false, false] (by kernel_rfl) rfl rfl ⟨cell_row E1.out rfl, cell_row P5.out rfl, cell_row P5.out rfl, cell_row P5.out rfl⟩ (fun hHeld => ?_)
  refine take_ (i := 0) (N := some 9) (v := ?_) (a' := ?_) #[true, false, false, false, false, false] rfl rfl (by kernel_rfl) (fun _ _ _ h => h) (Or.inl ⟨by rfl, ?_⟩) hHeld ?_ ?_
  rotate_left
  · rintro w' ⟨s0, s1, s2, s3⟩
    go_simp
    with_reducible rfl
  rotate_left
  · simp only [Act.put, List.setIfInBounds_toArray, List.set_cons_zero, List.set_cons_succ, i64_w, i32_w]
    rfl
  refine pure_ (i := 1) (N := some 10) (v := ?_) (a' := ?_) #[true, true, false, false, false, false] rfl rfl (by kernel_rfl) (fun _ _ _ h => h) (Or.inl ⟨by rfl, ?_⟩) ?_ ?_
  rotate_left
  · intro w'
    go_simp
    with_reducible rfl
  rotate_left
  · simp only [Act.put, List.setIfInBounds_toArray, List.set_cons_zero, List.set_cons_succ, i64_w, i32_w]
    rfl
  refine take_ (i := 2) (N := some 11) (v := ?_) (a' := ?_) #[true, true, true, false, false, false] rfl rfl (by kernel_rfl) (fun _ _ _ h => h) (Or.inl ⟨by rfl, ?_⟩) hHeld ?_ ?_
  rotate_left
  · rintro w' ⟨s0, s1, s2, s3⟩
    go_simp
    with_reducible rfl
  rotate_left
  · simp only [Act.put, List.setIfInBounds_toArray, List.set_cons_zero, List.set_cons_succ, i64_w, i32_w]
    rfl
  refine one_ (i := 3) (N := some 12) #[true, true, true, true, false, false] rfl rfl (by kernel_rfl) (by decide) (fun K hK => ?_)
  refine goes_ Try.func45 (by kernel_rfl) rfl #[.agg #[.bool L, .slice ak nk ck, .slice av nv cv]] (by rfl) rfl rfl (by simp only [List.map_toArray, List.map_cons, List.map_nil]; rfl) ?_
  with_reducible refine (count_at L ak av nk ck nv cv m _ HM.out.1 HN.out.1 HN.out.2).mono ?_
  rintro e w6 ⟨rfl, hb⟩
  refine ⟨_, rfl, ?_⟩
  have B6 := Lib.hid (below_then (below_drew (Below.refl w5.heap.size w5)) (Nat.le_refl _) hb)
  clear hb
  refine hK.out _ _ ⟨cell_row (keep_row E1.out B6.out) rfl, cell_row (keep_row P5.out B6.out) rfl, cell_row (keep_row P5.out B6.out) rfl, cell_row (keep_row P5.out B6.out) rfl⟩ (fun hHeld => ?_)
  clear hK K
  refine norm_ (a' := ?_) ?_ ?_
  rotate_left
  · show Act.put _ (some 12) _ = _
    simp only [Act.put, List.setIfInBounds_toArray, List.set_cons_zero, List.set_cons_succ, i64_w, i32_w]
    rfl
  refine pure_ (i := 4) (N := some 13) (v := ?_) (a' := ?_) #[true, true, true, true, true, false] rfl rfl (by kernel_rfl) (fun _ _ _ h => h) (Or.inl ⟨by rfl, ?_⟩) ?_ ?_
  rotate_left
  · intro w'
    go_simp
    with_reducible rfl
  rotate_left
  · simp only [Act.put, List.setIfInBounds_toArray, List.set_cons_zero, List.set_cons_succ, i64_w, i32_w]
    rfl
  refine last_ (i := 5) (N := none) #[true, true, true, true, true, true] rfl rfl (by kernel_rfl) (by decide) (fun K hK => ?_)
  have xf : w6.frozen? ⟨w1.heap.size, 0, none⟩ = false := blk_frozen (keep_row E1.out B6.out) 0
  obtain ⟨w7, hw7⟩ : ∃ x, w6.setCell ⟨w1.heap.size, 0, none⟩ (.int .i64 (min (max at_ 0) (m : Int))) = x := ⟨_, rfl⟩
  refine skip_ (w1 := ?_) (by rfl) rfl ?_ ?_
  rotate_left
  · go_simp
    rfl
  refine hK.out _ _ ?_
  clear hK K
  refine done_ (by kernel_rfl) ?_
  have hv : min (max at_ 0) (m : Int) = (i : Int) := by have := HX.out.2.2; omega
  have hoth : ∀ k, k ≠ w1.heap.size → w7.heap[k]? = w6.heap[k]? := fun k hk => by rw [← hw7]; exact Below.heap_setCell w6 ⟨w1.heap.size, 0, none⟩ _ k hk
  have b57 := below_then B5.out B5.out.size B6.out
  have b7 : Below w.heap.size w w7 := by rw [← hw7]; exact b57.setCell (by have := SY.out; show w.heap.size ≤ w1.heap.size; omega) _
  have B7 := Lib.hid b7
  have P7 := Lib.hid (show w7.heap[w.heap.size]? = some (.cells #[.bool L, .slice ak nk ck, .slice av nv cv] 24) by rw [hoth _ (by have := SY.out; omega)]; exact keep_row P5.out B6.out)
  have E1' := Lib.hid (show w7.heap[w1.heap.size]? = some (.cells #[.int .i64 (i : Int)] 3) by rw [← hw7, hv]; exact blk_put (keep_row E1.out B6.out) 0 _ rfl)
  have E2' := Lib.hid (show w7.heap[w2.heap.size]? = some (.cells #[.int .u64 key] 25) by rw [hoth _ (by have := SY.out; omega)]; exact keep_row E2.out B6.out)
  have E3' := Lib.hid (show w7.heap[w3.heap.size]? = some (.cells #[.int .u64 val] 25) by rw [hoth _ (by have := SY.out; omega)]; exact keep_row E3.out B6.out)
  have Q7 := Lib.hid (show w7.heap[w4.heap.size]? = some (.cells #[.bool false, .slice none 0 0, .slice none 0 0] 24) by rw [hoth _ (by have := SY.out; omega)]; exact keep_row Q5.out B6.out)
  have SZ7 := Lib.hid (show w4.heap.size < w7.heap.size by have h1 := SZ.out; have h2 : w7.heap.size = w6.heap.size := by rw [← hw7]; simp [World.setCell]
                                                           have h3 := B6.out.size; omega)
  clear hHeld xf hw7 hv hoth b57 b7
  go_wp2_with ((with_reducible refine wpList_load_row rfl 24 (.tmp 4) rfl w.heap.size ?_ 24 _ _ _ P7.out Try.underlying24 ?_ (size3 _ _ _) ?_); rfl; rfl)
  refine (both_g L Ks Vs ak av nk ck nv cv m 58 _ #[.pointer (some ⟨w1.heap.size, 0, none⟩), .pointer (some ⟨w2.heap.size, 0, none⟩), .pointer (some ⟨w3.heap.size, 0, none⟩)] (m + 1) xs ys _ (RK.out.1.below B7.out) (RK.out.2.below B7.out) HM.out.1 Try.func58 (by kernel_rfl) rfl (by rw [← HX.out.1, insL_len, HLK.out]) (by rw [← HX.out.2.1, insL_len, HLV.out])
    (fun A c base W hb hbase ho => by rw [← HX.out.1]; exact insc_any true A c m i _ _ _ base (Ks.take m) key val key at_ W ho HLK.out HX.out.2.2 (keep_row E1'.out hb) (keep_row E2'.out hb) (keep_row E3'.out hb) rfl hbase HM.out.2.2.2)
    (fun A c base W hb hbase ho => by rw [← HX.out.2.1]; exact insc_any false A c m i _ _ _ base (Vs.take m) key val val at_ W ho HLV.out HX.out.2.2 (keep_row E1'.out hb) (keep_row E2'.out hb) (keep_row E3'.out hb) rfl hbase HM.out.2.2.2)
    HM.out.2.1 HM.out.2.2.1.1 HM.out.2.2.1.2 (by have := HM.out.2.2.2; omega)).mono ?_; rintro e w8 h8
  obtain ⟨A6, c6, B6', d6, rfl, ho, hb⟩ := nb_own h8
  have OW6 := Lib.hid ho
  have Q8 := Lib.hid (keep_row Q7.out hb)
  have BB8 := Lib.hid (below_then' B7.out hb)
  have SZ8 := Lib.hid (show w4.heap.size < w7.heap.size ∧ w.heap.size ≤ w7.heap.size ∧ w.heap.size ≤ w4.heap.size from ⟨SZ7.out, B7.out.size, SZ.out.1⟩)
  clear h8 ho hb
  go_wp2_with ((with_reducible refine wpList_store_row rfl 24 (.tmp 8) (.tmp 16) rfl w4.heap.size #[.bool L, .slice A6 (m + 1) c6, .slice B6' (m + 1) d6] ?_ ?_ 24 _ Q8.out (size3 _ _ _) ?_ (one3 _ _ _ _ _ _ _) ?_); rfl; rfl; rfl)
  exact ret_c 8 rfl w4.heap.size #[.bool L, .slice A6 (m + 1) c6, .slice B6' (m + 1) d6] (0, 0) rfl (setRow_heap _ _ _ _ _ _ Q8.out) rfl rfl ⟨A6, c6, B6', d6, rfl, own2_weaken (own2_setRow OW6.out SZ8.out.1 _) SZ8.out.2.1, below_setRow BB8.out SZ8.out.2.2 _⟩
end Go.Proofs.Ytdekplalhfpooaa.Knt
