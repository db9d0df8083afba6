/- Knots: a node whose lists are what a function makes of a node's (both), for each such function, by their contracts (every input). -/
import Derived.BigQuiet
import Derived.Test.YtdekplalhfpooaaHlq
import Derived.Test.YtdekplalhfpooaaKntC
set_option linter.unusedVariables false
set_option linter.unusedSimpArgs false
namespace Go.Proofs.Ytdekplalhfpooaa.Knt
open Go Go.RowKit Go.Proofs.YtdekplalhfpooaaW.PrintWords Go.Proofs.YtdekplalhfpooaaW.PrintLast Go.Proofs.YtdekplalhfpooaaW.PrintMore Base Odr Hlp Nod

/-- Join's closure: the other node's keys, or values, behind. -/
theorem more_at (b : Bool) (A : Option Addr) (n c g base : Nat) (xs K V : List Int) (L : Bool) (ak av : Option Addr) (nk ck nv cv q : Nat) (w : World) (hg : w.heap[g]? = some (.cells #[.bool L, .slice ak nk ck, .slice av nv cv] 24)) (HK : ReadsInt w .u64 ak nk K) (HV : ReadsInt w .u64 av nv V)
    (ho : w.ownsRow base 25 1 (.slice A n c) n (nums .u64 xs)) (hx : xs.length = n) (hbase : base ≤ w.heap.size) (hq : n + (if b = true then nk else nv) = q) (hs : q * 8 ≤ 140737488355328) :
    Calls Try.prog 51 #[.slice A n c, .bool b, .pointer (some ⟨g, 0, none⟩)] w fun e w' => ∃ A' c', e = .returned (.slice A' q c') ∧ w'.ownsRow base 25 1 (.slice A' q c') q (nums .u64 (xs ++ (if b = true then K else V))) ∧ Below base w w' ∧ w.grownBy w' (Value.slice A n c).ownBlock ∧
      ((Value.slice A' q c').ownBlock = (Value.slice A n c).ownBlock ∨ ∃ p, (Value.slice A' q c').ownBlock = some p ∧ w.heap.size ≤ p) := by
  have x1 : w.cell? ⟨g, 1, none⟩ = some (.slice ak nk ck) := cell_row hg rfl
  have x2 : w.cell? ⟨g, 2, none⟩ = some (.slice av nv cv) := cell_row hg rfl
  have RK := Lib.hid HK
  have RV := Lib.hid HV
  have HO := Lib.hid ho
  have HX := Lib.hid hx
  have HB := Lib.hid hbase
  have HS := Lib.hid hs
  have HKL := Lib.hid HK.1
  have HVL := Lib.hid HV.1
  clear HK HV ho hx hbase hs hg
  cases b with
  | true =>
    have HQ := Lib.hid (show n + nk = q from hq)
    clear hq
    go_enter Try.func51, Try.ntmps51
    go_wp2_with (at_builtin; go_loud (refine print_append_row (w0 := w) (W := w) base rfl (.tmp 7) (.tmp 9) 22 25 .u64 8 rfl Try.underlying22 info64 (by omega) (.slice A n c) xs K ak nk ck rfl rfl (by rw [HX.out]; exact HO.out) RK.out (Below.refl _ _) HB.out (by rw [HX.out, HQ.out]; exact HS.out) ?_))
    intro v2 w2 hown hB hg hat
    obtain ⟨A2, c2, rfl⟩ := own_slice hown
    have hl : (xs ++ K).length = q := by rw [List.length_append, HX.out, HKL.out, HQ.out]
    simp only [List.length_append, HX.out, HKL.out, HQ.out] at hown hat ⊢
    have O2 := Lib.hid (And.intro hown (And.intro hB (And.intro hg hat)))
    clear hown hB hg hat hl
    go_wp2_with fail
    go_ret
    exact ⟨A2, c2, rfl, O2.out.1, O2.out.2.1, O2.out.2.2.1, O2.out.2.2.2⟩
  | false =>
    have HQ := Lib.hid (show n + nv = q from hq)
    clear hq
    go_enter Try.func51, Try.ntmps51
    go_wp2_with (at_builtin; go_loud (refine print_append_row (w0 := w) (W := w) base rfl (.tmp 11) (.tmp 13) 22 25 .u64 8 rfl Try.underlying22 info64 (by omega) (.slice A n c) xs V av nv cv rfl rfl (by rw [HX.out]; exact HO.out) RV.out (Below.refl _ _) HB.out (by rw [HX.out, HQ.out]; exact HS.out) ?_))
    intro v2 w2 hown hB hg hat
    obtain ⟨A2, c2, rfl⟩ := own_slice hown
    have hl : (xs ++ V).length = q := by rw [List.length_append, HX.out, HVL.out, HQ.out]
    simp only [List.length_append, HX.out, HVL.out, HQ.out] at hown hat ⊢
    have O2 := Lib.hid (And.intro hown (And.intro hB (And.intro hg hat)))
    clear hown hB hg hat hl
    go_wp2_with fail
    go_ret
    exact ⟨A2, c2, rfl, O2.out.1, O2.out.2.1, O2.out.2.2.1, O2.out.2.2.2⟩
theorem more_k (A : Option Addr) (n c g base : Nat) (xs K V : List Int) (L : Bool) (ak av : Option Addr) (nk ck nv cv q : Nat) (w : World) (hg : w.heap[g]? = some (.cells #[.bool L, .slice ak nk ck, .slice av nv cv] 24)) (HK : ReadsInt w .u64 ak nk K) (HV : ReadsInt w .u64 av nv V)
    (ho : w.ownsRow base 25 1 (.slice A n c) n (nums .u64 xs)) (hx : xs.length = n) (hbase : base ≤ w.heap.size) (hq : n + nk = q) (hs : q * 8 ≤ 140737488355328) :
    Calls Try.prog 51 #[.slice A n c, .bool true, .pointer (some ⟨g, 0, none⟩)] w fun e w' => ∃ A' c', e = .returned (.slice A' q c') ∧ w'.ownsRow base 25 1 (.slice A' q c') q (nums .u64 (xs ++ K)) ∧ Below base w w' ∧ w.grownBy w' (Value.slice A n c).ownBlock ∧
      ((Value.slice A' q c').ownBlock = (Value.slice A n c).ownBlock ∨ ∃ p, (Value.slice A' q c').ownBlock = some p ∧ w.heap.size ≤ p) :=
  more_at true A n c g base xs K V L ak av nk ck nv cv q w hg HK HV ho hx hbase hq hs
theorem more_v (A : Option Addr) (n c g base : Nat) (xs K V : List Int) (L : Bool) (ak av : Option Addr) (nk ck nv cv q : Nat) (w : World) (hg : w.heap[g]? = some (.cells #[.bool L, .slice ak nk ck, .slice av nv cv] 24)) (HK : ReadsInt w .u64 ak nk K) (HV : ReadsInt w .u64 av nv V)
    (ho : w.ownsRow base 25 1 (.slice A n c) n (nums .u64 xs)) (hx : xs.length = n) (hbase : base ≤ w.heap.size) (hq : n + nv = q) (hs : q * 8 ≤ 140737488355328) :
    Calls Try.prog 51 #[.slice A n c, .bool false, .pointer (some ⟨g, 0, none⟩)] w fun e w' => ∃ A' c', e = .returned (.slice A' q c') ∧ w'.ownsRow base 25 1 (.slice A' q c') q (nums .u64 (xs ++ V)) ∧ Below base w w' ∧ w.grownBy w' (Value.slice A n c).ownBlock ∧
      ((Value.slice A' q c').ownBlock = (Value.slice A n c).ownBlock ∨ ∃ p, (Value.slice A' q c').ownBlock = some p ∧ w.heap.size ≤ p) :=
  more_at false A n c g base xs K V L ak av nk ck nv cv q w hg HK HV ho hx hbase hq hs
/-- In two blocks. -/
def Apart (A A' : Option Addr) : Prop := ∀ a a', A = some a → A' = some a' → a.block ≠ a'.block
/-- What a call that makes a node leaves. -/
def NB (w w' : World) (e : Ending) (L : Bool) (n n' : Nat) (xs ys : List Int) : Prop :=
  ∃ A c A' c', e = .returned (.agg #[.bool L, .slice A n c, .slice A' n' c']) ∧ Mine w' w.heap.size A n xs ∧ Mine w' w.heap.size A' n' ys ∧ Apart A A' ∧ n ≤ c ∧ n' ≤ c' ∧ (A = none → n = 0 ∧ c = 0) ∧ (A' = none → n' = 0 ∧ c' = 0) ∧ Below w.heap.size w w'
theorem ret_c {f : Func} {R : Ending → World → Prop} {a : Act} {w : World} (s : Nat) (hf : f.results = #[.cell s 24]) (g : Nat) (cs : Array Value) (fr : Nat × Nat) (hp : a.tmps.getD s undef = .pointer (some ⟨g, 0, none⟩)) (hg : w.heap[g]? = some (.cells cs 24 fr)) (hcs : cs.size = 3)
    (hd : a.defers = []) (hR : R (.returned (.agg cs)) w) : bodyPost Try.prog f R .ret a w := by
  have h1 := run_loadVar_row (P := Try.prog) w g 24 24 cs fr _ hg Try.underlying24 rfl (by rw [hcs]; kernel_rfl)
  have hp' : a.tmps[s]?.getD undef = .pointer (some ⟨g, 0, none⟩) := by simpa using hp
  refine bodyPost_ret (v := .agg cs) ?_ hd hR
  simp [results, hf, hp', asAddr, h1]
theorem own_nilc {w : World} {base n c : Nat} {A : Option Addr} {cs : List Value} (h : w.ownsRow base 25 1 (.slice A n c) n cs) : A = none → n = 0 ∧ c = 0 := by
  rintro rfl
  rcases h.2 with ⟨hv, -⟩ | ⟨g, cap, cur, hv, -⟩
  · injection hv with h1 h2 h3; exact ⟨h2, h3⟩
  · cases hv
theorem apart_own {A A' : Option Addr} {w : World} {base n c n' c' p : Nat} {cs cs' : List Value} {w' : World} {base' : Nat} (h : w.ownsRow base 25 1 (.slice A n c) n cs) (h' : w'.ownsRow base' 25 1 (.slice A' n' c') n' cs') (hb : w.heap.size ≤ base') : Apart A A' := by
  rintro a a' rfl rfl he
  have h1 := own_lt h a.block rfl
  have h2 := own_base h' a'.block rfl
  omega
theorem apart_map {A A' : Option Addr} (h : Apart A A') (c k c' k' : Nat) : Apart (dropA A c k) (dropA A' c' k') := by
  unfold dropA
  have hb : ∀ (a : Addr) (k : Nat), (a.add k).block = a.block := by intro a k; unfold Addr.add; split <;> rfl
  have key : ∀ (B : Option Addr) (c k : Nat) (a : Addr), (if c = k then B else B.map (·.add (k * 1))) = some a → ∃ b, B = some b ∧ b.block = a.block := by
    intro B c k a h
    split at h
    · exact ⟨a, h, rfl⟩
    · cases B with
      | none => simp at h
      | some b => simp at h; exact ⟨b, rfl, by rw [← h, hb]⟩
  intro a a' ha ha'
  obtain ⟨b, e, h1⟩ := key _ _ _ _ ha
  obtain ⟨b', e', h2⟩ := key _ _ _ _ ha'
  rw [← h1, ← h2]
  exact h b b' e e'
theorem none_of {A B : Option Addr} {c k : Nat} (h : dropA A c k = B) (hB : B = none) : A = none := by
  unfold dropA at h
  subst hB
  split at h
  · exact h
  · cases A with
    | none => rfl
    | some a => simp at h
theorem apart_grown {A A' A2 : Option Addr} {w : World} {base n c n' c' n2 c2 : Nat} {cs : List Value} (h : Apart A A') (ho : w.ownsRow base 25 1 (.slice A n c) n cs) (hat : (Value.slice A2 n2 c2).ownBlock = (Value.slice A' n' c').ownBlock ∨ ∃ p, (Value.slice A2 n2 c2).ownBlock = some p ∧ w.heap.size ≤ p) : Apart A A2 := by
  rintro a a2 rfl rfl he
  have h1 := own_lt ho a.block rfl
  rcases hat with hat | ⟨p, hat, hp⟩
  · simp only [Value.ownBlock] at hat
    cases hA : A' with
    | none => rw [hA] at hat; simp [Value.ownBlock] at hat
    | some a' => rw [hA] at hat; simp only [Value.ownBlock] at hat; injection hat with hat; exact h a a' rfl hA (he.trans hat)
  · simp only [Value.ownBlock] at hat
    injection hat with hat
    omega
set_option maxRecDepth 100000 in
set_option maxHeartbeats 3200000 in
theorem both_h1 (L : Bool) (Ks V : List Int) (ak av : Option Addr) (nk ck nv cv m : Nat) (ge h : Nat) (w : World) (HK : ReadsInt w .u64 ak nk Ks) (HV : ReadsInt w .u64 av nv V) (hm : min nk nv = m) (henv : w.heap[ge]? = some (.cells #[.int .i64 (h : Int)] 3)) (hh : h ≤ m) (hk : nk ≤ ck ∧ nv ≤ cv) (hn : ak = none → ck = 0) (hn' : av = none → cv = 0) (hs : m * 8 ≤ 140737488355328) :
    Calls Try.prog 47 #[.agg #[.bool L, .slice ak nk ck, .slice av nv cv], .func (.func 48) #[] #[.pointer (some ⟨ge, 0, none⟩)]] w fun e w' => NB w w' e L h h ((Ks.take m).take h) ((V.take m).take h) := by
  obtain ⟨w1, hw1, b1, f1, s1⟩ := made w #[.bool L, .slice ak nk ck, .slice av nv cv] 24
  obtain ⟨w2, hw2, b2, f2, s2⟩ := made w1 #[.bool false, .slice none 0 0, .slice none 0 0] 24
  have B2 := Lib.hid (below_then' b1 b2)
  have P2 := Lib.hid (keep_row f1 b2)
  have Q2 := Lib.hid f2
  have SP := Lib.hid (show w.heap.size < w2.heap.size ∧ w1.heap.size < w2.heap.size ∧ w.heap.size ≤ w1.heap.size by omega)
  have RK := Lib.hid (HK.below B2.out)
  have RV := Lib.hid (HV.below B2.out)
  have HM := Lib.hid hm
  have HC := Lib.hid (And.intro hk (And.intro hn hn'))
  have HS := Lib.hid (And.intro HK.2.1 (And.intro HV.2.1 hs))
  have HL := Lib.hid (And.intro HK.1 HV.1)
  have HE := Lib.hid (keep_row henv B2.out)
  have HH := Lib.hid hh
  have HLK := Lib.hid (show (Ks.take m).length = m by rw [List.length_take, HK.1]; omega)
  have HLV := Lib.hid (show (V.take m).length = m by rw [List.length_take, HV.1]; omega)
  clear b1 f1 s1 b2 f2 s2 HK HV hm hk hn hn' hs henv hh
  go_enter Try.func47, Try.ntmps47
  go_wp2_with ((with_reducible refine wpList_load_row rfl 24 (.tmp 2) rfl w.heap.size ?_ 24 _ _ _ P2.out Try.underlying24 ?_ (size3 _ _ _) ?_); rfl; rfl)
  refine (count_at L ak av nk ck nv cv m _ HM.out HS.out.1 HS.out.2.1).mono ?_; rintro e w3 ⟨rfl, hb⟩
  have B3 := Lib.hid (below_then' B2.out hb)
  have P3 := Lib.hid (keep_row P2.out hb)
  have Q3 := Lib.hid (keep_row Q2.out hb)
  have RK3 := Lib.hid (RK.out.below hb)
  have RV3 := Lib.hid (RV.out.below hb)
  have SP3 := Lib.hid (show w2.heap.size ≤ w3.heap.size from hb.size)
  have HE3 := Lib.hid (keep_row HE.out hb)
  have hmk : (m : Int) ≤ (ck : Int) := by have h1 := HM.out; have h2 := HC.out.1; omega
  have hmv : (m : Int) ≤ (cv : Int) := by have h1 := HM.out; have h2 := HC.out.1; omega
  have hmk' : m ≤ ck := by omega
  have hmv' : m ≤ cv := by omega
  clear hb hw1 hw2
  go_wp2_with fail
  refine start_ (n := 20) (S := fun w' => w'.cell? ⟨w.heap.size, 0, none⟩ = some (.bool L) ∧ w'.cell? ⟨w.heap.size, 1, none⟩ = some (.slice ak nk ck) ∧ w'.cell? ⟨w.heap.size, 2, none⟩ = some (.slice av nv cv)) (ds := [19]) #[false, false, false, false, false, false, false, false, false, false, false, false, false, false, false, false, false, false, false, false] (by kernel_rfl) rfl rfl ⟨cell_row P3.out rfl, cell_row P3.out rfl, cell_row P3.out rfl⟩ (fun hHeld => ?_)
  refine pure_ (i := 0) (N := some 8) (v := ?_) (a' := ?_) #[true, false, false, false, false, false, false, false, false, false, false, false, false, false, false, false, false, false, false, false] rfl rfl (by kernel_rfl) (fun _ _ _ h => h) (Or.inl ⟨by rfl, ?_⟩) ?_ ?_
  rotate_left
  · intro w'
    go_simp
    with_reducible rfl
  rotate_left
  · simp only [Act.put, List.setIfInBounds_toArray, List.set_cons_zero, List.set_cons_succ, i64_w, i32_w]
    rfl
  refine pure_ (i := 2) (N := some 10) (v := ?_) (a' := ?_) #[true, false, true, false, false, false, false, false, false, false, false, false, false, false, false, false, false, false, false, false] rfl rfl (by kernel_rfl) (fun _ _ _ h => h) (Or.inl ⟨by rfl, ?_⟩) ?_ ?_
  rotate_left
  · intro w'
    go_simp
    with_reducible rfl
  rotate_left
  · simp only [Act.put, List.setIfInBounds_toArray, List.set_cons_zero, List.set_cons_succ, i64_w, i32_w]
    rfl
  refine pure_ (i := 3) (N := some 11) (v := ?_) (a' := ?_) #[true, false, true, true, false, false, false, false, false, false, false, false, false, false, false, false, false, false, false, false] rfl rfl (by kernel_rfl) (fun _ _ _ h => h) (Or.inl ⟨by rfl, ?_⟩) ?_ ?_
  rotate_left
  · intro w'
    go_simp
    with_reducible rfl
  rotate_left
  · simp only [Act.put, List.setIfInBounds_toArray, List.set_cons_zero, List.set_cons_succ, i64_w, i32_w]
    rfl
  refine pure_ (i := 5) (N := some 13) (v := ?_) (a' := ?_) #[true, false, true, true, false, true, false, false, false, false, false, false, false, false, false, false, false, false, false, false] rfl rfl (by kernel_rfl) (fun _ _ _ h => h) (Or.inl ⟨by rfl, ?_⟩) ?_ ?_
  rotate_left
  · intro w'
    go_simp
    with_reducible rfl
  rotate_left
  · simp only [Act.put, List.setIfInBounds_toArray, List.set_cons_zero, List.set_cons_succ, i64_w, i32_w]
    rfl
  refine pure_ (i := 6) (N := some 14) (v := ?_) (a' := ?_) #[true, false, true, true, false, true, true, false, false, false, false, false, false, false, false, false, false, false, false, false] rfl rfl (by kernel_rfl) (fun _ _ _ h => h) (Or.inl ⟨by rfl, ?_⟩) ?_ ?_
  rotate_left
  · intro w'
    go_simp
    with_reducible rfl
  rotate_left
  · simp only [Act.put, List.setIfInBounds_toArray, List.set_cons_zero, List.set_cons_succ, i64_w, i32_w]
    rfl
  refine pure_ (i := 10) (N := some 18) (v := ?_) (a' := ?_) #[true, false, true, true, false, true, true, false, false, false, true, false, false, false, false, false, false, false, false, false] rfl rfl (by kernel_rfl) (fun _ _ _ h => h) (Or.inl ⟨by rfl, ?_⟩) ?_ ?_
  rotate_left
  · intro w'
    go_simp
    with_reducible rfl
  rotate_left
  · simp only [Act.put, List.setIfInBounds_toArray, List.set_cons_zero, List.set_cons_succ, i64_w, i32_w]
    rfl
  refine pure_ (i := 11) (N := some 19) (v := ?_) (a' := ?_) #[true, false, true, true, false, true, true, false, false, false, true, true, false, false, false, false, false, false, false, false] rfl rfl (by kernel_rfl) (fun _ _ _ h => h) (Or.inl ⟨by rfl, ?_⟩) ?_ ?_
  rotate_left
  · intro w'
    go_simp
    with_reducible rfl
  rotate_left
  · simp only [Act.put, List.setIfInBounds_toArray, List.set_cons_zero, List.set_cons_succ, i64_w, i32_w]
    rfl
  refine pure_ (i := 13) (N := some 21) (v := ?_) (a' := ?_) #[true, false, true, true, false, true, true, false, false, false, true, true, false, true, false, false, false, false, false, false] rfl rfl (by kernel_rfl) (fun _ _ _ h => h) (Or.inl ⟨by rfl, ?_⟩) ?_ ?_
  rotate_left
  · intro w'
    go_simp
    with_reducible rfl
  rotate_left
  · simp only [Act.put, List.setIfInBounds_toArray, List.set_cons_zero, List.set_cons_succ, i64_w, i32_w]
    rfl
  refine pure_ (i := 14) (N := some 22) (v := ?_) (a' := ?_) #[true, false, true, true, false, true, true, false, false, false, true, true, false, true, true, false, false, false, false, false] rfl rfl (by kernel_rfl) (fun _ _ _ h => h) (Or.inl ⟨by rfl, ?_⟩) ?_ ?_
  rotate_left
  · intro w'
    go_simp
    with_reducible rfl
  rotate_left
  · simp only [Act.put, List.setIfInBounds_toArray, List.set_cons_zero, List.set_cons_succ, i64_w, i32_w]
    rfl
  refine take_ (i := 1) (N := some 9) (v := ?_) (a' := ?_) #[true, true, true, true, false, true, true, false, false, false, true, true, false, true, true, false, false, false, false, false] rfl rfl (by kernel_rfl) (fun _ _ _ h => h) (Or.inl ⟨by rfl, ?_⟩) hHeld ?_ ?_
  rotate_left
  · rintro w' ⟨s0, s1, s2⟩
    go_simp
    with_reducible rfl
  rotate_left
  · simp only [Act.put, List.setIfInBounds_toArray, List.set_cons_zero, List.set_cons_succ, i64_w, i32_w]
    rfl
  refine take_ (i := 4) (N := some 12) (v := ?_) (a' := ?_) #[true, true, true, true, true, true, true, false, false, false, true, true, false, true, true, false, false, false, false, false] rfl rfl (by kernel_rfl) (fun _ _ _ h => h) (Or.inl ⟨by rfl, ?_⟩) hHeld ?_ ?_
  rotate_left
  · rintro w' ⟨s0, s1, s2⟩
    go_simp
    with_reducible rfl
  rotate_left
  · simp only [Act.put, List.setIfInBounds_toArray, List.set_cons_zero, List.set_cons_succ, i64_w, i32_w]
    rfl
  refine pure_ (i := 7) (N := some 15) (v := ?_) (a' := ?_) #[true, true, true, true, true, true, true, true, false, false, true, true, false, true, true, false, false, false, false, false] rfl rfl (by kernel_rfl) (fun _ _ _ h => h) (Or.inl ⟨by rfl, ?_⟩) ?_ ?_
  rotate_left
  · intro w'
    go_simp
    with_reducible rfl
  rotate_left
  · simp only [Act.put, List.setIfInBounds_toArray, List.set_cons_zero, List.set_cons_succ, i64_w, i32_w]
    rfl
  refine take_ (i := 12) (N := some 20) (v := ?_) (a' := ?_) #[true, true, true, true, true, true, true, true, false, false, true, true, true, true, true, false, false, false, false, false] rfl rfl (by kernel_rfl) (fun _ _ _ h => h) (Or.inl ⟨by rfl, ?_⟩) hHeld ?_ ?_
  rotate_left
  · rintro w' ⟨s0, s1, s2⟩
    go_simp
    with_reducible rfl
  rotate_left
  · simp only [Act.put, List.setIfInBounds_toArray, List.set_cons_zero, List.set_cons_succ, i64_w, i32_w]
    rfl
  refine pure_ (i := 15) (N := some 23) (v := ?_) (a' := ?_) #[true, true, true, true, true, true, true, true, false, false, true, true, true, true, true, true, false, false, false, false] rfl rfl (by kernel_rfl) (fun _ _ _ h => h) (Or.inl ⟨by rfl, ?_⟩) ?_ ?_
  rotate_left
  · intro w'
    go_simp
    with_reducible rfl
  rotate_left
  · simp only [Act.put, List.setIfInBounds_toArray, List.set_cons_zero, List.set_cons_succ, i64_w, i32_w]
    rfl
  refine one_ (i := 8) (N := some 16) #[true, true, true, true, true, true, true, true, true, false, true, true, true, true, true, true, false, false, false, false] rfl rfl (by kernel_rfl) (by decide) (fun K hK => ?_)
  refine goes_ Try.func65 (by kernel_rfl) rfl #[.slice ak m m] (by rfl) rfl rfl (by simp only [List.map_toArray, List.map_cons, List.map_nil]; rfl) ?_
  with_reducible refine (clone_any (Ks.take m) ak m m _ (ReadsInt.take_ (reads_drew RK3.out) m (by have := HM.out; omega)) HS.out.2.2 (by have h1 := HC.out.2.1; intro h; have := h1 h; have := hmk'; omega)).mono ?_
  rintro e w4 ⟨A4, c4, rfl, ho, hb⟩
  refine ⟨_, rfl, ?_⟩
  have BB4 := Lib.hid hb
  have OK4 := Lib.hid ho
  have P4 := Lib.hid (keep_row (w := w3.drew) P3.out hb)
  have Q4 := Lib.hid (keep_row (w := w3.drew) Q3.out hb)
  have RV4 := Lib.hid (ReadsInt.below (reads_drew RV3.out) hb)
  have HE4 := Lib.hid (keep_row (w := w3.drew) HE3.out hb)
  clear ho hb
  refine hK.out _ _ ⟨cell_row P4.out rfl, cell_row P4.out rfl, cell_row P4.out rfl⟩ (fun hHeld => ?_)
  clear hK K
  refine norm_ (a' := ?_) ?_ ?_
  rotate_left
  · show Act.put _ (some 16) _ = _
    simp only [Act.put, List.setIfInBounds_toArray, List.set_cons_zero, List.set_cons_succ, i64_w, i32_w]
    rfl
  refine one_ (i := 9) (N := some 17) #[true, true, true, true, true, true, true, true, true, true, true, true, true, true, true, true, false, false, false, false] rfl rfl (by kernel_rfl) (by decide) (fun K hK => ?_)
  refine goes_fv Try.func48 (by kernel_rfl) rfl (.tmp 10) #[] #[.pointer (some ⟨ge, 0, none⟩)] #[.slice A4 m c4, .bool true, .pointer (some ⟨ge, 0, none⟩)] (by rfl) rfl rfl rfl (by simp only [List.map_toArray, List.map_cons, List.map_nil]; rfl) ?_
  with_reducible refine (half1_at A4 m c4 h ge true _ HE4.out HH.out (own_cap OK4.out)).mono ?_
  rintro e w5 ⟨rfl, rfl⟩
  refine ⟨_, rfl, ?_⟩
  refine hK.out _ _ ⟨cell_row P4.out rfl, cell_row P4.out rfl, cell_row P4.out rfl⟩ (fun hHeld => ?_)
  clear hK K
  refine norm_ (a' := ?_) ?_ ?_
  rotate_left
  · show Act.put _ (some 17) _ = _
    simp only [Act.put, List.setIfInBounds_toArray, List.set_cons_zero, List.set_cons_succ, i64_w, i32_w]
    rfl
  refine one_ (i := 16) (N := some 24) #[true, true, true, true, true, true, true, true, true, true, true, true, true, true, true, true, true, false, false, false] rfl rfl (by kernel_rfl) (by decide) (fun K hK => ?_)
  refine goes_ Try.func65 (by kernel_rfl) rfl #[.slice av m m] (by rfl) rfl rfl (by simp only [List.map_toArray, List.map_cons, List.map_nil]; rfl) ?_
  with_reducible refine (clone_any (V.take m) av m m _ (ReadsInt.take_ RV4.out m (by have := HM.out; omega)) HS.out.2.2 (by have h1 := HC.out.2.2; intro h; have := h1 h; have := hmv'; omega)).mono ?_
  rintro e w6 ⟨A6, c6, rfl, ho, hb⟩
  refine ⟨_, rfl, ?_⟩
  have BB6 := Lib.hid (below_then BB4.out BB4.out.size hb)
  have OV6 := Lib.hid ho
  have OK6 := Lib.hid (pw_own_below OK4.out hb)
  have AP6 := Lib.hid (apart_own (p := 0) OK4.out ho (Nat.le_refl _))
  have P6 := Lib.hid (keep_row (w := w3.drew) P3.out BB6.out)
  have Q6 := Lib.hid (keep_row (w := w3.drew) Q3.out BB6.out)
  have HE6 := Lib.hid (keep_row (w := w3.drew) HE3.out BB6.out)
  clear ho hb
  refine hK.out _ _ ⟨cell_row P6.out rfl, cell_row P6.out rfl, cell_row P6.out rfl⟩ (fun hHeld => ?_)
  clear hK K
  refine norm_ (a' := ?_) ?_ ?_
  rotate_left
  · show Act.put _ (some 24) _ = _
    simp only [Act.put, List.setIfInBounds_toArray, List.set_cons_zero, List.set_cons_succ, i64_w, i32_w]
    rfl
  refine one_ (i := 17) (N := some 25) #[true, true, true, true, true, true, true, true, true, true, true, true, true, true, true, true, true, true, false, false] rfl rfl (by kernel_rfl) (by decide) (fun K hK => ?_)
  refine goes_fv Try.func48 (by kernel_rfl) rfl (.tmp 18) #[] #[.pointer (some ⟨ge, 0, none⟩)] #[.slice A6 m c6, .bool false, .pointer (some ⟨ge, 0, none⟩)] (by rfl) rfl rfl rfl (by simp only [List.map_toArray, List.map_cons, List.map_nil]; rfl) ?_
  with_reducible refine (half1_at A6 m c6 h ge false _ HE6.out HH.out (own_cap OV6.out)).mono ?_
  rintro e w7 ⟨rfl, rfl⟩
  refine ⟨_, rfl, ?_⟩
  refine hK.out _ _ ⟨cell_row P6.out rfl, cell_row P6.out rfl, cell_row P6.out rfl⟩ (fun hHeld => ?_)
  clear hK K
  refine norm_ (a' := ?_) ?_ ?_
  rotate_left
  · show Act.put _ (some 25) _ = _
    simp only [Act.put, List.setIfInBounds_toArray, List.set_cons_zero, List.set_cons_succ, i64_w, i32_w]
    rfl
  refine pure_ (i := 18) (N := some 26) (v := ?_) (a' := ?_) #[true, true, true, true, true, true, true, true, true, true, true, true, true, true, true, true, true, true, true, false] rfl rfl (by kernel_rfl) (fun _ _ _ h => h) (Or.inl ⟨by rfl, ?_⟩) ?_ ?_
  rotate_left
  · intro w'
    go_simp
    with_reducible rfl
  rotate_left
  · simp only [Act.put, List.setIfInBounds_toArray, List.set_cons_zero, List.set_cons_succ, i64_w, i32_w]
    rfl
  refine last_ (i := 19) (N := none) #[true, true, true, true, true, true, true, true, true, true, true, true, true, true, true, true, true, true, true, true] rfl rfl (by kernel_rfl) (by decide) (fun K hK => ?_)
  refine skip_ (w1 := w6.setRow w1.heap.size #[.bool L, .slice A4 h h, .slice A6 h h]) (by rfl) rfl (exec_store_row 24 _ _ rfl w1.heap.size #[.bool L, .slice A4 h h, .slice A6 h h] (by rfl) (by rfl) 24 _ Q6.out (size3 _ _ _) rfl (one3 _ _ _ _ _ _ _)) ?_
  obtain ⟨w8, hw8⟩ : ∃ w8, w8 = w6.setRow w1.heap.size #[.bool L, .slice A4 h h, .slice A6 h h] := ⟨_, rfl⟩
  rw [← hw8]
  have HW8 := Lib.hid hw8
  clear hw8
  refine hK.out _ _ ?_
  clear hK K
  refine done_ (by kernel_rfl) ?_
  have hbase : w2.heap.size ≤ w3.drew.heap.size := SP3.out
  have hk8 : w8.heap[w1.heap.size]? = some (.cells #[.bool L, .slice A4 h h, .slice A6 h h] 24) := by rw [HW8.out]; exact setRow_heap _ _ _ _ _ _ Q6.out
  have ok8 := own_setRow (g := w1.heap.size) OK6.out (own_ne OK6.out (by have := SP.out; omega)) #[.bool L, .slice A4 h h, .slice A6 h h]
  have ov8 := own_setRow (g := w1.heap.size) OV6.out (own_ne OV6.out (by have h1 := SP.out; have h2 := BB4.out.size; omega)) #[.bool L, .slice A4 h h, .slice A6 h h]
  rw [← HW8.out] at ok8 ov8
  have b8 : Below w.heap.size w w8 := by rw [HW8.out]; exact below_setRow (below_then (below_drew B3.out) (below_drew B3.out).size BB6.out) SP.out.2.2 _
  have hbw : w.heap.size ≤ w3.drew.heap.size := by have h1 := SP.out; omega
  have hbv : w.heap.size ≤ w4.heap.size := Nat.le_trans hbw BB4.out.size
  go_wp2_with fail
  refine ret_c 4 rfl w1.heap.size #[.bool L, .slice A4 h h, .slice A6 h h] (0, 0) rfl hk8 rfl rfl ?_
  exact ⟨A4, h, A6, h, rfl, mine_weaken (mine_take ok8 HLK.out HH.out) hbw, mine_weaken (mine_take ov8 HLV.out HH.out) hbv, AP6.out, Nat.le_refl _, Nat.le_refl _, fun h0 => by have h1 := own_nilc ok8 h0; have h2 := HH.out; omega, fun h0 => by have h1 := own_nilc ov8 h0; have h2 := HH.out; omega, b8⟩
set_option maxRecDepth 100000 in
set_option maxHeartbeats 3200000 in
theorem both_h2 (L : Bool) (Ks V : List Int) (ak av : Option Addr) (nk ck nv cv m : Nat) (ge h d : Nat) (w : World) (HK : ReadsInt w .u64 ak nk Ks) (HV : ReadsInt w .u64 av nv V) (hm : min nk nv = m) (henv : w.heap[ge]? = some (.cells #[.int .i64 (h : Int)] 3)) (hh : h ≤ m) (hd : m - h = d) (hk : nk ≤ ck ∧ nv ≤ cv) (hn : ak = none → ck = 0) (hn' : av = none → cv = 0) (hs : m * 8 ≤ 140737488355328) :
    Calls Try.prog 47 #[.agg #[.bool L, .slice ak nk ck, .slice av nv cv], .func (.func 49) #[] #[.pointer (some ⟨ge, 0, none⟩)]] w fun e w' => NB w w' e L d d ((Ks.take m).drop h) ((V.take m).drop h) := by
  obtain ⟨w1, hw1, b1, f1, s1⟩ := made w #[.bool L, .slice ak nk ck, .slice av nv cv] 24
  obtain ⟨w2, hw2, b2, f2, s2⟩ := made w1 #[.bool false, .slice none 0 0, .slice none 0 0] 24
  have B2 := Lib.hid (below_then' b1 b2)
  have P2 := Lib.hid (keep_row f1 b2)
  have Q2 := Lib.hid f2
  have SP := Lib.hid (show w.heap.size < w2.heap.size ∧ w1.heap.size < w2.heap.size ∧ w.heap.size ≤ w1.heap.size by omega)
  have RK := Lib.hid (HK.below B2.out)
  have RV := Lib.hid (HV.below B2.out)
  have HM := Lib.hid hm
  have HC := Lib.hid (And.intro hk (And.intro hn hn'))
  have HS := Lib.hid (And.intro HK.2.1 (And.intro HV.2.1 hs))
  have HL := Lib.hid (And.intro HK.1 HV.1)
  have HE := Lib.hid (keep_row henv B2.out)
  have HH := Lib.hid hh
  have HD := Lib.hid hd
  clear hd
  have HLK := Lib.hid (show (Ks.take m).length = m by rw [List.length_take, HK.1]; omega)
  have HLV := Lib.hid (show (V.take m).length = m by rw [List.length_take, HV.1]; omega)
  clear b1 f1 s1 b2 f2 s2 HK HV hm hk hn hn' hs henv hh
  go_enter Try.func47, Try.ntmps47
  go_wp2_with ((with_reducible refine wpList_load_row rfl 24 (.tmp 2) rfl w.heap.size ?_ 24 _ _ _ P2.out Try.underlying24 ?_ (size3 _ _ _) ?_); rfl; rfl)
  refine (count_at L ak av nk ck nv cv m _ HM.out HS.out.1 HS.out.2.1).mono ?_; rintro e w3 ⟨rfl, hb⟩
  have B3 := Lib.hid (below_then' B2.out hb)
  have P3 := Lib.hid (keep_row P2.out hb)
  have Q3 := Lib.hid (keep_row Q2.out hb)
  have RK3 := Lib.hid (RK.out.below hb)
  have RV3 := Lib.hid (RV.out.below hb)
  have SP3 := Lib.hid (show w2.heap.size ≤ w3.heap.size from hb.size)
  have HE3 := Lib.hid (keep_row HE.out hb)
  have hmk : (m : Int) ≤ (ck : Int) := by have h1 := HM.out; have h2 := HC.out.1; omega
  have hmv : (m : Int) ≤ (cv : Int) := by have h1 := HM.out; have h2 := HC.out.1; omega
  have hmk' : m ≤ ck := by omega
  have hmv' : m ≤ cv := by omega
  clear hb hw1 hw2
  go_wp2_with fail
  refine start_ (n := 20) (S := fun w' => w'.cell? ⟨w.heap.size, 0, none⟩ = some (.bool L) ∧ w'.cell? ⟨w.heap.size, 1, none⟩ = some (.slice ak nk ck) ∧ w'.cell? ⟨w.heap.size, 2, none⟩ = some (.slice av nv cv)) (ds := [19]) #[false, false, false, false, false, false, false, false, false, false, false, false, false, false, false, false, false, false, false, false] (by kernel_rfl) rfl rfl ⟨cell_row P3.out rfl, cell_row P3.out rfl, cell_row P3.out rfl⟩ (fun hHeld => ?_)
  refine pure_ (i := 0) (N := some 8) (v := ?_) (a' := ?_) #[true, false, false, false, false, false, false, false, false, false, false, false, false, false, false, false, false, false, false, false] rfl rfl (by kernel_rfl) (fun _ _ _ h => h) (Or.inl ⟨by rfl, ?_⟩) ?_ ?_
  rotate_left
  · intro w'
    go_simp
    with_reducible rfl
  rotate_left
  · simp only [Act.put, List.setIfInBounds_toArray, List.set_cons_zero, List.set_cons_succ, i64_w, i32_w]
    rfl
  refine pure_ (i := 2) (N := some 10) (v := ?_) (a' := ?_) #[true, false, true, false, false, false, false, false, false, false, false, false, false, false, false, false, false, false, false, false] rfl rfl (by kernel_rfl) (fun _ _ _ h => h) (Or.inl ⟨by rfl, ?_⟩) ?_ ?_
  rotate_left
  · intro w'
    go_simp
    with_reducible rfl
  rotate_left
  · simp only [Act.put, List.setIfInBounds_toArray, List.set_cons_zero, List.set_cons_succ, i64_w, i32_w]
    rfl
  refine pure_ (i := 3) (N := some 11) (v := ?_) (a' := ?_) #[true, false, true, true, false, false, false, false, false, false, false, false, false, false, false, false, false, false, false, false] rfl rfl (by kernel_rfl) (fun _ _ _ h => h) (Or.inl ⟨by rfl, ?_⟩) ?_ ?_
  rotate_left
  · intro w'
    go_simp
    with_reducible rfl
  rotate_left
  · simp only [Act.put, List.setIfInBounds_toArray, List.set_cons_zero, List.set_cons_succ, i64_w, i32_w]
    rfl
  refine pure_ (i := 5) (N := some 13) (v := ?_) (a' := ?_) #[true, false, true, true, false, true, false, false, false, false, false, false, false, false, false, false, false, false, false, false] rfl rfl (by kernel_rfl) (fun _ _ _ h => h) (Or.inl ⟨by rfl, ?_⟩) ?_ ?_
  rotate_left
  · intro w'
    go_simp
    with_reducible rfl
  rotate_left
  · simp only [Act.put, List.setIfInBounds_toArray, List.set_cons_zero, List.set_cons_succ, i64_w, i32_w]
    rfl
  refine pure_ (i := 6) (N := some 14) (v := ?_) (a' := ?_) #[true, false, true, true, false, true, true, false, false, false, false, false, false, false, false, false, false, false, false, false] rfl rfl (by kernel_rfl) (fun _ _ _ h => h) (Or.inl ⟨by rfl, ?_⟩) ?_ ?_
  rotate_left
  · intro w'
    go_simp
    with_reducible rfl
  rotate_left
  · simp only [Act.put, List.setIfInBounds_toArray, List.set_cons_zero, List.set_cons_succ, i64_w, i32_w]
    rfl
  refine pure_ (i := 10) (N := some 18) (v := ?_) (a' := ?_) #[true, false, true, true, false, true, true, false, false, false, true, false, false, false, false, false, false, false, false, false] rfl rfl (by kernel_rfl) (fun _ _ _ h => h) (Or.inl ⟨by rfl, ?_⟩) ?_ ?_
  rotate_left
  · intro w'
    go_simp
    with_reducible rfl
  rotate_left
  · simp only [Act.put, List.setIfInBounds_toArray, List.set_cons_zero, List.set_cons_succ, i64_w, i32_w]
    rfl
  refine pure_ (i := 11) (N := some 19) (v := ?_) (a' := ?_) #[true, false, true, true, false, true, true, false, false, false, true, true, false, false, false, false, false, false, false, false] rfl rfl (by kernel_rfl) (fun _ _ _ h => h) (Or.inl ⟨by rfl, ?_⟩) ?_ ?_
  rotate_left
  · intro w'
    go_simp
    with_reducible rfl
  rotate_left
  · simp only [Act.put, List.setIfInBounds_toArray, List.set_cons_zero, List.set_cons_succ, i64_w, i32_w]
    rfl
  refine pure_ (i := 13) (N := some 21) (v := ?_) (a' := ?_) #[true, false, true, true, false, true, true, false, false, false, true, true, false, true, false, false, false, false, false, false] rfl rfl (by kernel_rfl) (fun _ _ _ h => h) (Or.inl ⟨by rfl, ?_⟩) ?_ ?_
  rotate_left
  · intro w'
    go_simp
    with_reducible rfl
  rotate_left
  · simp only [Act.put, List.setIfInBounds_toArray, List.set_cons_zero, List.set_cons_succ, i64_w, i32_w]
    rfl
  refine pure_ (i := 14) (N := some 22) (v := ?_) (a' := ?_) #[true, false, true, true, false, true, true, false, false, false, true, true, false, true, true, false, false, false, false, false] rfl rfl (by kernel_rfl) (fun _ _ _ h => h) (Or.inl ⟨by rfl, ?_⟩) ?_ ?_
  rotate_left
  · intro w'
    go_simp
    with_reducible rfl
  rotate_left
  · simp only [Act.put, List.setIfInBounds_toArray, List.set_cons_zero, List.set_cons_succ, i64_w, i32_w]
    rfl
  refine take_ (i := 1) (N := some 9) (v := ?_) (a' := ?_) #[true, true, true, true, false, true, true, false, false, false, true, true, false, true, true, false, false, false, false, false] rfl rfl (by kernel_rfl) (fun _ _ _ h => h) (Or.inl ⟨by rfl, ?_⟩) hHeld ?_ ?_
  rotate_left
  · rintro w' ⟨s0, s1, s2⟩
    go_simp
    with_reducible rfl
  rotate_left
  · simp only [Act.put, List.setIfInBounds_toArray, List.set_cons_zero, List.set_cons_succ, i64_w, i32_w]
    rfl
  refine take_ (i := 4) (N := some 12) (v := ?_) (a' := ?_) #[true, true, true, true, true, true, true, false, false, false, true, true, false, true, true, false, false, false, false, false] rfl rfl (by kernel_rfl) (fun _ _ _ h => h) (Or.inl ⟨by rfl, ?_⟩) hHeld ?_ ?_
  rotate_left
  · rintro w' ⟨s0, s1, s2⟩
    go_simp
    with_reducible rfl
  rotate_left
  · simp only [Act.put, List.setIfInBounds_toArray, List.set_cons_zero, List.set_cons_succ, i64_w, i32_w]
    rfl
  refine pure_ (i := 7) (N := some 15) (v := ?_) (a' := ?_) #[true, true, true, true, true, true, true, true, false, false, true, true, false, true, true, false, false, false, false, false] rfl rfl (by kernel_rfl) (fun _ _ _ h => h) (Or.inl ⟨by rfl, ?_⟩) ?_ ?_
  rotate_left
  · intro w'
    go_simp
    with_reducible rfl
  rotate_left
  · simp only [Act.put, List.setIfInBounds_toArray, List.set_cons_zero, List.set_cons_succ, i64_w, i32_w]
    rfl
  refine take_ (i := 12) (N := some 20) (v := ?_) (a' := ?_) #[true, true, true, true, true, true, true, true, false, false, true, true, true, true, true, false, false, false, false, false] rfl rfl (by kernel_rfl) (fun _ _ _ h => h) (Or.inl ⟨by rfl, ?_⟩) hHeld ?_ ?_
  rotate_left
  · rintro w' ⟨s0, s1, s2⟩
    go_simp
    with_reducible rfl
  rotate_left
  · simp only [Act.put, List.setIfInBounds_toArray, List.set_cons_zero, List.set_cons_succ, i64_w, i32_w]
    rfl
  refine pure_ (i := 15) (N := some 23) (v := ?_) (a' := ?_) #[true, true, true, true, true, true, true, true, false, false, true, true, true, true, true, true, false, false, false, false] rfl rfl (by kernel_rfl) (fun _ _ _ h => h) (Or.inl ⟨by rfl, ?_⟩) ?_ ?_
  rotate_left
  · intro w'
    go_simp
    with_reducible rfl
  rotate_left
  · simp only [Act.put, List.setIfInBounds_toArray, List.set_cons_zero, List.set_cons_succ, i64_w, i32_w]
    rfl
  refine one_ (i := 8) (N := some 16) #[true, true, true, true, true, true, true, true, true, false, true, true, true, true, true, true, false, false, false, false] rfl rfl (by kernel_rfl) (by decide) (fun K hK => ?_)
  refine goes_ Try.func65 (by kernel_rfl) rfl #[.slice ak m m] (by rfl) rfl rfl (by simp only [List.map_toArray, List.map_cons, List.map_nil]; rfl) ?_
  with_reducible refine (clone_any (Ks.take m) ak m m _ (ReadsInt.take_ (reads_drew RK3.out) m (by have := HM.out; omega)) HS.out.2.2 (by have h1 := HC.out.2.1; intro h; have := h1 h; have := hmk'; omega)).mono ?_
  rintro e w4 ⟨A4, c4, rfl, ho, hb⟩
  refine ⟨_, rfl, ?_⟩
  have BB4 := Lib.hid hb
  have OK4 := Lib.hid ho
  have P4 := Lib.hid (keep_row (w := w3.drew) P3.out hb)
  have Q4 := Lib.hid (keep_row (w := w3.drew) Q3.out hb)
  have RV4 := Lib.hid (ReadsInt.below (reads_drew RV3.out) hb)
  have HE4 := Lib.hid (keep_row (w := w3.drew) HE3.out hb)
  clear ho hb
  refine hK.out _ _ ⟨cell_row P4.out rfl, cell_row P4.out rfl, cell_row P4.out rfl⟩ (fun hHeld => ?_)
  clear hK K
  refine norm_ (a' := ?_) ?_ ?_
  rotate_left
  · show Act.put _ (some 16) _ = _
    simp only [Act.put, List.setIfInBounds_toArray, List.set_cons_zero, List.set_cons_succ, i64_w, i32_w]
    rfl
  refine one_ (i := 9) (N := some 17) #[true, true, true, true, true, true, true, true, true, true, true, true, true, true, true, true, false, false, false, false] rfl rfl (by kernel_rfl) (by decide) (fun K hK => ?_)
  refine goes_fv Try.func49 (by kernel_rfl) rfl (.tmp 10) #[] #[.pointer (some ⟨ge, 0, none⟩)] #[.slice A4 m c4, .bool true, .pointer (some ⟨ge, 0, none⟩)] (by rfl) rfl rfl rfl (by simp only [List.map_toArray, List.map_cons, List.map_nil]; rfl) ?_
  with_reducible refine (half2_at A4 m c4 h d ge true _ HE4.out HH.out (own_cap OK4.out) HD.out).mono ?_
  rintro e w5 ⟨D5, k5, rfl, hD5, hk5, rfl⟩
  refine ⟨_, rfl, ?_⟩
  refine hK.out _ _ ⟨cell_row P4.out rfl, cell_row P4.out rfl, cell_row P4.out rfl⟩ (fun hHeld => ?_)
  clear hK K
  refine norm_ (a' := ?_) ?_ ?_
  rotate_left
  · show Act.put _ (some 17) _ = _
    simp only [Act.put, List.setIfInBounds_toArray, List.set_cons_zero, List.set_cons_succ, i64_w, i32_w]
    rfl
  refine one_ (i := 16) (N := some 24) #[true, true, true, true, true, true, true, true, true, true, true, true, true, true, true, true, true, false, false, false] rfl rfl (by kernel_rfl) (by decide) (fun K hK => ?_)
  refine goes_ Try.func65 (by kernel_rfl) rfl #[.slice av m m] (by rfl) rfl rfl (by simp only [List.map_toArray, List.map_cons, List.map_nil]; rfl) ?_
  with_reducible refine (clone_any (V.take m) av m m _ (ReadsInt.take_ RV4.out m (by have := HM.out; omega)) HS.out.2.2 (by have h1 := HC.out.2.2; intro h; have := h1 h; have := hmv'; omega)).mono ?_
  rintro e w6 ⟨A6, c6, rfl, ho, hb⟩
  refine ⟨_, rfl, ?_⟩
  have BB6 := Lib.hid (below_then BB4.out BB4.out.size hb)
  have OV6 := Lib.hid ho
  have OK6 := Lib.hid (pw_own_below OK4.out hb)
  have AP6 := Lib.hid (apart_own (p := 0) OK4.out ho (Nat.le_refl _))
  have P6 := Lib.hid (keep_row (w := w3.drew) P3.out BB6.out)
  have Q6 := Lib.hid (keep_row (w := w3.drew) Q3.out BB6.out)
  have HE6 := Lib.hid (keep_row (w := w3.drew) HE3.out BB6.out)
  clear ho hb
  refine hK.out _ _ ⟨cell_row P6.out rfl, cell_row P6.out rfl, cell_row P6.out rfl⟩ (fun hHeld => ?_)
  clear hK K
  refine norm_ (a' := ?_) ?_ ?_
  rotate_left
  · show Act.put _ (some 24) _ = _
    simp only [Act.put, List.setIfInBounds_toArray, List.set_cons_zero, List.set_cons_succ, i64_w, i32_w]
    rfl
  refine one_ (i := 17) (N := some 25) #[true, true, true, true, true, true, true, true, true, true, true, true, true, true, true, true, true, true, false, false] rfl rfl (by kernel_rfl) (by decide) (fun K hK => ?_)
  refine goes_fv Try.func49 (by kernel_rfl) rfl (.tmp 18) #[] #[.pointer (some ⟨ge, 0, none⟩)] #[.slice A6 m c6, .bool false, .pointer (some ⟨ge, 0, none⟩)] (by rfl) rfl rfl rfl (by simp only [List.map_toArray, List.map_cons, List.map_nil]; rfl) ?_
  with_reducible refine (half2_at A6 m c6 h d ge false _ HE6.out HH.out (own_cap OV6.out) HD.out).mono ?_
  rintro e w7 ⟨D7, k7, rfl, hD7, hk7, rfl⟩
  refine ⟨_, rfl, ?_⟩
  refine hK.out _ _ ⟨cell_row P6.out rfl, cell_row P6.out rfl, cell_row P6.out rfl⟩ (fun hHeld => ?_)
  clear hK K
  refine norm_ (a' := ?_) ?_ ?_
  rotate_left
  · show Act.put _ (some 25) _ = _
    simp only [Act.put, List.setIfInBounds_toArray, List.set_cons_zero, List.set_cons_succ, i64_w, i32_w]
    rfl
  refine pure_ (i := 18) (N := some 26) (v := ?_) (a' := ?_) #[true, true, true, true, true, true, true, true, true, true, true, true, true, true, true, true, true, true, true, false] rfl rfl (by kernel_rfl) (fun _ _ _ h => h) (Or.inl ⟨by rfl, ?_⟩) ?_ ?_
  rotate_left
  · intro w'
    go_simp
    with_reducible rfl
  rotate_left
  · simp only [Act.put, List.setIfInBounds_toArray, List.set_cons_zero, List.set_cons_succ, i64_w, i32_w]
    rfl
  refine last_ (i := 19) (N := none) #[true, true, true, true, true, true, true, true, true, true, true, true, true, true, true, true, true, true, true, true] rfl rfl (by kernel_rfl) (by decide) (fun K hK => ?_)
  refine skip_ (w1 := w6.setRow w1.heap.size #[.bool L, .slice D5 d k5, .slice D7 d k7]) (by rfl) rfl (exec_store_row 24 _ _ rfl w1.heap.size #[.bool L, .slice D5 d k5, .slice D7 d k7] (by rfl) (by rfl) 24 _ Q6.out (size3 _ _ _) rfl (one3 _ _ _ _ _ _ _)) ?_
  obtain ⟨w8, hw8⟩ : ∃ w8, w8 = w6.setRow w1.heap.size #[.bool L, .slice D5 d k5, .slice D7 d k7] := ⟨_, rfl⟩
  rw [← hw8]
  have HW8 := Lib.hid hw8
  clear hw8
  refine hK.out _ _ ?_
  clear hK K
  refine done_ (by kernel_rfl) ?_
  have hbase : w2.heap.size ≤ w3.drew.heap.size := SP3.out
  have hk8 : w8.heap[w1.heap.size]? = some (.cells #[.bool L, .slice D5 d k5, .slice D7 d k7] 24) := by rw [HW8.out]; exact setRow_heap _ _ _ _ _ _ Q6.out
  have ok8 := own_setRow (g := w1.heap.size) OK6.out (own_ne OK6.out (by have := SP.out; omega)) #[.bool L, .slice D5 d k5, .slice D7 d k7]
  have ov8 := own_setRow (g := w1.heap.size) OV6.out (own_ne OV6.out (by have h1 := SP.out; have h2 := BB4.out.size; omega)) #[.bool L, .slice D5 d k5, .slice D7 d k7]
  rw [← HW8.out] at ok8 ov8
  have b8 : Below w.heap.size w w8 := by rw [HW8.out]; exact below_setRow (below_then (below_drew B3.out) (below_drew B3.out).size BB6.out) SP.out.2.2 _
  have hbw : w.heap.size ≤ w3.drew.heap.size := by have h1 := SP.out; omega
  have hbv : w.heap.size ≤ w4.heap.size := Nat.le_trans hbw BB4.out.size
  go_wp2_with fail
  refine ret_c 4 rfl w1.heap.size #[.bool L, .slice D5 d k5, .slice D7 d k7] (0, 0) rfl hk8 rfl rfl ?_
  have t1 := mine_drop ok8 HLK.out HH.out
  have t2 := mine_drop ov8 HLV.out HH.out
  have hap := apart_map AP6.out c4 h c6 h
  have g1 : A4 = none → m = 0 ∧ c4 = 0 := own_nilc ok8
  have g2 : A6 = none → m = 0 ∧ c6 = 0 := own_nilc ov8
  have q1 := own_cap ok8
  have q2 := own_cap ov8
  rw [HD.out] at t1 t2
  rw [hD5] at t1 hap
  rw [hD7] at t2 hap
  refine ⟨D5, k5, D7, k7, rfl, mine_weaken t1 hbw, mine_weaken t2 hbv, hap, by have := HD.out; omega, by have := HD.out; omega, fun h0 => ?_, fun h0 => ?_, b8⟩
  · have h1 : A4 = none := none_of hD5 h0
    have h2 := g1 h1
    have := HD.out
    omega
  · have h1 : A6 = none := none_of hD7 h0
    have h2 := g2 h1
    have := HD.out
    omega
set_option maxRecDepth 100000 in
set_option maxHeartbeats 3200000 in
theorem both_id (L : Bool) (Ks V : List Int) (ak av : Option Addr) (nk ck nv cv m : Nat) (w : World) (HK : ReadsInt w .u64 ak nk Ks) (HV : ReadsInt w .u64 av nv V) (hm : min nk nv = m) (hk : nk ≤ ck ∧ nv ≤ cv) (hn : ak = none → ck = 0) (hn' : av = none → cv = 0) (hs : m * 8 ≤ 140737488355328) :
    Calls Try.prog 47 #[.agg #[.bool L, .slice ak nk ck, .slice av nv cv], .func (.func 50) #[] #[]] w fun e w' => NB w w' e L m m (Ks.take m) (V.take m) := by
  obtain ⟨w1, hw1, b1, f1, s1⟩ := made w #[.bool L, .slice ak nk ck, .slice av nv cv] 24
  obtain ⟨w2, hw2, b2, f2, s2⟩ := made w1 #[.bool false, .slice none 0 0, .slice none 0 0] 24
  have B2 := Lib.hid (below_then' b1 b2)
  have P2 := Lib.hid (keep_row f1 b2)
  have Q2 := Lib.hid f2
  have SP := Lib.hid (show w.heap.size < w2.heap.size ∧ w1.heap.size < w2.heap.size ∧ w.heap.size ≤ w1.heap.size by omega)
  have RK := Lib.hid (HK.below B2.out)
  have RV := Lib.hid (HV.below B2.out)
  have HM := Lib.hid hm
  have HC := Lib.hid (And.intro hk (And.intro hn hn'))
  have HS := Lib.hid (And.intro HK.2.1 (And.intro HV.2.1 hs))
  have HL := Lib.hid (And.intro HK.1 HV.1)
  have HLK := Lib.hid (show (Ks.take m).length = m by rw [List.length_take, HK.1]; omega)
  have HLV := Lib.hid (show (V.take m).length = m by rw [List.length_take, HV.1]; omega)
  clear b1 f1 s1 b2 f2 s2 HK HV hm hk hn hn' hs
  go_enter Try.func47, Try.ntmps47
  go_wp2_with ((with_reducible refine wpList_load_row rfl 24 (.tmp 2) rfl w.heap.size ?_ 24 _ _ _ P2.out Try.underlying24 ?_ (size3 _ _ _) ?_); rfl; rfl)
  refine (count_at L ak av nk ck nv cv m _ HM.out HS.out.1 HS.out.2.1).mono ?_; rintro e w3 ⟨rfl, hb⟩
  have B3 := Lib.hid (below_then' B2.out hb)
  have P3 := Lib.hid (keep_row P2.out hb)
  have Q3 := Lib.hid (keep_row Q2.out hb)
  have RK3 := Lib.hid (RK.out.below hb)
  have RV3 := Lib.hid (RV.out.below hb)
  have SP3 := Lib.hid (show w2.heap.size ≤ w3.heap.size from hb.size)
  have hmk : (m : Int) ≤ (ck : Int) := by have h1 := HM.out; have h2 := HC.out.1; omega
  have hmv : (m : Int) ≤ (cv : Int) := by have h1 := HM.out; have h2 := HC.out.1; omega
  have hmk' : m ≤ ck := by omega
  have hmv' : m ≤ cv := by omega
  clear hb hw1 hw2
  go_wp2_with fail
  refine start_ (n := 20) (S := fun w' => w'.cell? ⟨w.heap.size, 0, none⟩ = some (.bool L) ∧ w'.cell? ⟨w.heap.size, 1, none⟩ = some (.slice ak nk ck) ∧ w'.cell? ⟨w.heap.size, 2, none⟩ = some (.slice av nv cv)) (ds := [19]) #[false, false, false, false, false, false, false, false, false, false, false, false, false, false, false, false, false, false, false, false] (by kernel_rfl) rfl rfl ⟨cell_row P3.out rfl, cell_row P3.out rfl, cell_row P3.out rfl⟩ (fun hHeld => ?_)
  refine pure_ (i := 0) (N := some 8) (v := ?_) (a' := ?_) #[true, false, false, false, false, false, false, false, false, false, false, false, false, false, false, false, false, false, false, false] rfl rfl (by kernel_rfl) (fun _ _ _ h => h) (Or.inl ⟨by rfl, ?_⟩) ?_ ?_
  rotate_left
  · intro w'
    go_simp
    with_reducible rfl
  rotate_left
  · simp only [Act.put, List.setIfInBounds_toArray, List.set_cons_zero, List.set_cons_succ, i64_w, i32_w]
    rfl
  refine pure_ (i := 2) (N := some 10) (v := ?_) (a' := ?_) #[true, false, true, false, false, false, false, false, false, false, false, false, false, false, false, false, false, false, false, false] rfl rfl (by kernel_rfl) (fun _ _ _ h => h) (Or.inl ⟨by rfl, ?_⟩) ?_ ?_
  rotate_left
  · intro w'
    go_simp
    with_reducible rfl
  rotate_left
  · simp only [Act.put, List.setIfInBounds_toArray, List.set_cons_zero, List.set_cons_succ, i64_w, i32_w]
    rfl
  refine pure_ (i := 3) (N := some 11) (v := ?_) (a' := ?_) #[true, false, true, true, false, false, false, false, false, false, false, false, false, false, false, false, false, false, false, false] rfl rfl (by kernel_rfl) (fun _ _ _ h => h) (Or.inl ⟨by rfl, ?_⟩) ?_ ?_
  rotate_left
  · intro w'
    go_simp
    with_reducible rfl
  rotate_left
  · simp only [Act.put, List.setIfInBounds_toArray, List.set_cons_zero, List.set_cons_succ, i64_w, i32_w]
    rfl
  refine pure_ (i := 5) (N := some 13) (v := ?_) (a' := ?_) #[true, false, true, true, false, true, false, false, false, false, false, false, false, false, false, false, false, false, false, false] rfl rfl (by kernel_rfl) (fun _ _ _ h => h) (Or.inl ⟨by rfl, ?_⟩) ?_ ?_
  rotate_left
  · intro w'
    go_simp
    with_reducible rfl
  rotate_left
  · simp only [Act.put, List.setIfInBounds_toArray, List.set_cons_zero, List.set_cons_succ, i64_w, i32_w]
    rfl
  refine pure_ (i := 6) (N := some 14) (v := ?_) (a' := ?_) #[true, false, true, true, false, true, true, false, false, false, false, false, false, false, false, false, false, false, false, false] rfl rfl (by kernel_rfl) (fun _ _ _ h => h) (Or.inl ⟨by rfl, ?_⟩) ?_ ?_
  rotate_left
  · intro w'
    go_simp
    with_reducible rfl
  rotate_left
  · simp only [Act.put, List.setIfInBounds_toArray, List.set_cons_zero, List.set_cons_succ, i64_w, i32_w]
    rfl
  refine pure_ (i := 10) (N := some 18) (v := ?_) (a' := ?_) #[true, false, true, true, false, true, true, false, false, false, true, false, false, false, false, false, false, false, false, false] rfl rfl (by kernel_rfl) (fun _ _ _ h => h) (Or.inl ⟨by rfl, ?_⟩) ?_ ?_
  rotate_left
  · intro w'
    go_simp
    with_reducible rfl
  rotate_left
  · simp only [Act.put, List.setIfInBounds_toArray, List.set_cons_zero, List.set_cons_succ, i64_w, i32_w]
    rfl
  refine pure_ (i := 11) (N := some 19) (v := ?_) (a' := ?_) #[true, false, true, true, false, true, true, false, false, false, true, true, false, false, false, false, false, false, false, false] rfl rfl (by kernel_rfl) (fun _ _ _ h => h) (Or.inl ⟨by rfl, ?_⟩) ?_ ?_
  rotate_left
  · intro w'
    go_simp
    with_reducible rfl
  rotate_left
  · simp only [Act.put, List.setIfInBounds_toArray, List.set_cons_zero, List.set_cons_succ, i64_w, i32_w]
    rfl
  refine pure_ (i := 13) (N := some 21) (v := ?_) (a' := ?_) #[true, false, true, true, false, true, true, false, false, false, true, true, false, true, false, false, false, false, false, false] rfl rfl (by kernel_rfl) (fun _ _ _ h => h) (Or.inl ⟨by rfl, ?_⟩) ?_ ?_
  rotate_left
  · intro w'
    go_simp
    with_reducible rfl
  rotate_left
  · simp only [Act.put, List.setIfInBounds_toArray, List.set_cons_zero, List.set_cons_succ, i64_w, i32_w]
    rfl
  refine pure_ (i := 14) (N := some 22) (v := ?_) (a' := ?_) #[true, false, true, true, false, true, true, false, false, false, true, true, false, true, true, false, false, false, false, false] rfl rfl (by kernel_rfl) (fun _ _ _ h => h) (Or.inl ⟨by rfl, ?_⟩) ?_ ?_
  rotate_left
  · intro w'
    go_simp
    with_reducible rfl
  rotate_left
  · simp only [Act.put, List.setIfInBounds_toArray, List.set_cons_zero, List.set_cons_succ, i64_w, i32_w]
    rfl
  refine take_ (i := 1) (N := some 9) (v := ?_) (a' := ?_) #[true, true, true, true, false, true, true, false, false, false, true, true, false, true, true, false, false, false, false, false] rfl rfl (by kernel_rfl) (fun _ _ _ h => h) (Or.inl ⟨by rfl, ?_⟩) hHeld ?_ ?_
  rotate_left
  · rintro w' ⟨s0, s1, s2⟩
    go_simp
    with_reducible rfl
  rotate_left
  · simp only [Act.put, List.setIfInBounds_toArray, List.set_cons_zero, List.set_cons_succ, i64_w, i32_w]
    rfl
  refine take_ (i := 4) (N := some 12) (v := ?_) (a' := ?_) #[true, true, true, true, true, true, true, false, false, false, true, true, false, true, true, false, false, false, false, false] rfl rfl (by kernel_rfl) (fun _ _ _ h => h) (Or.inl ⟨by rfl, ?_⟩) hHeld ?_ ?_
  rotate_left
  · rintro w' ⟨s0, s1, s2⟩
    go_simp
    with_reducible rfl
  rotate_left
  · simp only [Act.put, List.setIfInBounds_toArray, List.set_cons_zero, List.set_cons_succ, i64_w, i32_w]
    rfl
  refine pure_ (i := 7) (N := some 15) (v := ?_) (a' := ?_) #[true, true, true, true, true, true, true, true, false, false, true, true, false, true, true, false, false, false, false, false] rfl rfl (by kernel_rfl) (fun _ _ _ h => h) (Or.inl ⟨by rfl, ?_⟩) ?_ ?_
  rotate_left
  · intro w'
    go_simp
    with_reducible rfl
  rotate_left
  · simp only [Act.put, List.setIfInBounds_toArray, List.set_cons_zero, List.set_cons_succ, i64_w, i32_w]
    rfl
  refine take_ (i := 12) (N := some 20) (v := ?_) (a' := ?_) #[true, true, true, true, true, true, true, true, false, false, true, true, true, true, true, false, false, false, false, false] rfl rfl (by kernel_rfl) (fun _ _ _ h => h) (Or.inl ⟨by rfl, ?_⟩) hHeld ?_ ?_
  rotate_left
  · rintro w' ⟨s0, s1, s2⟩
    go_simp
    with_reducible rfl
  rotate_left
  · simp only [Act.put, List.setIfInBounds_toArray, List.set_cons_zero, List.set_cons_succ, i64_w, i32_w]
    rfl
  refine pure_ (i := 15) (N := some 23) (v := ?_) (a' := ?_) #[true, true, true, true, true, true, true, true, false, false, true, true, true, true, true, true, false, false, false, false] rfl rfl (by kernel_rfl) (fun _ _ _ h => h) (Or.inl ⟨by rfl, ?_⟩) ?_ ?_
  rotate_left
  · intro w'
    go_simp
    with_reducible rfl
  rotate_left
  · simp only [Act.put, List.setIfInBounds_toArray, List.set_cons_zero, List.set_cons_succ, i64_w, i32_w]
    rfl
  refine one_ (i := 8) (N := some 16) #[true, true, true, true, true, true, true, true, true, false, true, true, true, true, true, true, false, false, false, false] rfl rfl (by kernel_rfl) (by decide) (fun K hK => ?_)
  refine goes_ Try.func65 (by kernel_rfl) rfl #[.slice ak m m] (by rfl) rfl rfl (by simp only [List.map_toArray, List.map_cons, List.map_nil]; rfl) ?_
  with_reducible refine (clone_any (Ks.take m) ak m m _ (ReadsInt.take_ (reads_drew RK3.out) m (by have := HM.out; omega)) HS.out.2.2 (by have h1 := HC.out.2.1; intro h; have := h1 h; have := hmk'; omega)).mono ?_
  rintro e w4 ⟨A4, c4, rfl, ho, hb⟩
  refine ⟨_, rfl, ?_⟩
  have BB4 := Lib.hid hb
  have OK4 := Lib.hid ho
  have P4 := Lib.hid (keep_row (w := w3.drew) P3.out hb)
  have Q4 := Lib.hid (keep_row (w := w3.drew) Q3.out hb)
  have RV4 := Lib.hid (ReadsInt.below (reads_drew RV3.out) hb)
  clear ho hb
  refine hK.out _ _ ⟨cell_row P4.out rfl, cell_row P4.out rfl, cell_row P4.out rfl⟩ (fun hHeld => ?_)
  clear hK K
  refine norm_ (a' := ?_) ?_ ?_
  rotate_left
  · show Act.put _ (some 16) _ = _
    simp only [Act.put, List.setIfInBounds_toArray, List.set_cons_zero, List.set_cons_succ, i64_w, i32_w]
    rfl
  refine one_ (i := 9) (N := some 17) #[true, true, true, true, true, true, true, true, true, true, true, true, true, true, true, true, false, false, false, false] rfl rfl (by kernel_rfl) (by decide) (fun K hK => ?_)
  refine goes_fv Try.func50 (by kernel_rfl) rfl (.tmp 10) #[] #[] #[.slice A4 m c4, .bool true] (by rfl) rfl rfl rfl (by simp only [List.map_toArray, List.map_cons, List.map_nil]; rfl) ?_
  with_reducible refine (same1_at A4 m c4 true _).mono ?_
  rintro e w5 ⟨rfl, rfl⟩
  refine ⟨_, rfl, ?_⟩
  refine hK.out _ _ ⟨cell_row P4.out rfl, cell_row P4.out rfl, cell_row P4.out rfl⟩ (fun hHeld => ?_)
  clear hK K
  refine norm_ (a' := ?_) ?_ ?_
  rotate_left
  · show Act.put _ (some 17) _ = _
    simp only [Act.put, List.setIfInBounds_toArray, List.set_cons_zero, List.set_cons_succ, i64_w, i32_w]
    rfl
  refine one_ (i := 16) (N := some 24) #[true, true, true, true, true, true, true, true, true, true, true, true, true, true, true, true, true, false, false, false] rfl rfl (by kernel_rfl) (by decide) (fun K hK => ?_)
  refine goes_ Try.func65 (by kernel_rfl) rfl #[.slice av m m] (by rfl) rfl rfl (by simp only [List.map_toArray, List.map_cons, List.map_nil]; rfl) ?_
  with_reducible refine (clone_any (V.take m) av m m _ (ReadsInt.take_ RV4.out m (by have := HM.out; omega)) HS.out.2.2 (by have h1 := HC.out.2.2; intro h; have := h1 h; have := hmv'; omega)).mono ?_
  rintro e w6 ⟨A6, c6, rfl, ho, hb⟩
  refine ⟨_, rfl, ?_⟩
  have BB6 := Lib.hid (below_then BB4.out BB4.out.size hb)
  have OV6 := Lib.hid ho
  have OK6 := Lib.hid (pw_own_below OK4.out hb)
  have AP6 := Lib.hid (apart_own (p := 0) OK4.out ho (Nat.le_refl _))
  have P6 := Lib.hid (keep_row (w := w3.drew) P3.out BB6.out)
  have Q6 := Lib.hid (keep_row (w := w3.drew) Q3.out BB6.out)
  clear ho hb
  refine hK.out _ _ ⟨cell_row P6.out rfl, cell_row P6.out rfl, cell_row P6.out rfl⟩ (fun hHeld => ?_)
  clear hK K
  refine norm_ (a' := ?_) ?_ ?_
  rotate_left
  · show Act.put _ (some 24) _ = _
    simp only [Act.put, List.setIfInBounds_toArray, List.set_cons_zero, List.set_cons_succ, i64_w, i32_w]
    rfl
  refine one_ (i := 17) (N := some 25) #[true, true, true, true, true, true, true, true, true, true, true, true, true, true, true, true, true, true, false, false] rfl rfl (by kernel_rfl) (by decide) (fun K hK => ?_)
  refine goes_fv Try.func50 (by kernel_rfl) rfl (.tmp 18) #[] #[] #[.slice A6 m c6, .bool false] (by rfl) rfl rfl rfl (by simp only [List.map_toArray, List.map_cons, List.map_nil]; rfl) ?_
  with_reducible refine (same1_at A6 m c6 false _).mono ?_
  rintro e w7 ⟨rfl, rfl⟩
  refine ⟨_, rfl, ?_⟩
  refine hK.out _ _ ⟨cell_row P6.out rfl, cell_row P6.out rfl, cell_row P6.out rfl⟩ (fun hHeld => ?_)
  clear hK K
  refine norm_ (a' := ?_) ?_ ?_
  rotate_left
  · show Act.put _ (some 25) _ = _
    simp only [Act.put, List.setIfInBounds_toArray, List.set_cons_zero, List.set_cons_succ, i64_w, i32_w]
    rfl
  refine pure_ (i := 18) (N := some 26) (v := ?_) (a' := ?_) #[true, true, true, true, true, true, true, true, true, true, true, true, true, true, true, true, true, true, true, false] rfl rfl (by kernel_rfl) (fun _ _ _ h => h) (Or.inl ⟨by rfl, ?_⟩) ?_ ?_
  rotate_left
  · intro w'
    go_simp
    with_reducible rfl
  rotate_left
  · simp only [Act.put, List.setIfInBounds_toArray, List.set_cons_zero, List.set_cons_succ, i64_w, i32_w]
    rfl
  refine last_ (i := 19) (N := none) #[true, true, true, true, true, true, true, true, true, true, true, true, true, true, true, true, true, true, true, true] rfl rfl (by kernel_rfl) (by decide) (fun K hK => ?_)
  refine skip_ (w1 := w6.setRow w1.heap.size #[.bool L, .slice A4 m c4, .slice A6 m c6]) (by rfl) rfl (exec_store_row 24 _ _ rfl w1.heap.size #[.bool L, .slice A4 m c4, .slice A6 m c6] (by rfl) (by rfl) 24 _ Q6.out (size3 _ _ _) rfl (one3 _ _ _ _ _ _ _)) ?_
  obtain ⟨w8, hw8⟩ : ∃ w8, w8 = w6.setRow w1.heap.size #[.bool L, .slice A4 m c4, .slice A6 m c6] := ⟨_, rfl⟩
  rw [← hw8]
  have HW8 := Lib.hid hw8
  clear hw8
  refine hK.out _ _ ?_
  clear hK K
  refine done_ (by kernel_rfl) ?_
  have hbase : w2.heap.size ≤ w3.drew.heap.size := SP3.out
  have hk8 : w8.heap[w1.heap.size]? = some (.cells #[.bool L, .slice A4 m c4, .slice A6 m c6] 24) := by rw [HW8.out]; exact setRow_heap _ _ _ _ _ _ Q6.out
  have ok8 := own_setRow (g := w1.heap.size) OK6.out (own_ne OK6.out (by have := SP.out; omega)) #[.bool L, .slice A4 m c4, .slice A6 m c6]
  have ov8 := own_setRow (g := w1.heap.size) OV6.out (own_ne OV6.out (by have h1 := SP.out; have h2 := BB4.out.size; omega)) #[.bool L, .slice A4 m c4, .slice A6 m c6]
  rw [← HW8.out] at ok8 ov8
  have b8 : Below w.heap.size w w8 := by rw [HW8.out]; exact below_setRow (below_then (below_drew B3.out) (below_drew B3.out).size BB6.out) SP.out.2.2 _
  have hbw : w.heap.size ≤ w3.drew.heap.size := by have h1 := SP.out; omega
  have hbv : w.heap.size ≤ w4.heap.size := Nat.le_trans hbw BB4.out.size
  go_wp2_with fail
  refine ret_c 4 rfl w1.heap.size #[.bool L, .slice A4 m c4, .slice A6 m c6] (0, 0) rfl hk8 rfl rfl ?_
  have t1 := mine_take ok8 HLK.out (Nat.le_refl m)
  have t2 := mine_take ov8 HLV.out (Nat.le_refl m)
  rw [List.take_of_length_le (by rw [HLK.out]; exact Nat.le_refl _)] at t1
  rw [List.take_of_length_le (by rw [HLV.out]; exact Nat.le_refl _)] at t2
  exact ⟨A4, c4, A6, c6, rfl, mine_weaken t1 hbw, mine_weaken t2 hbv, AP6.out, own_cap ok8, own_cap ov8, own_nilc ok8, own_nilc ov8, b8⟩
set_option maxRecDepth 100000 in
set_option maxHeartbeats 3200000 in
theorem both_more (L : Bool) (Ks V : List Int) (ak av : Option Addr) (nk ck nv cv m : Nat) (ge : Nat) (L2 : Bool) (K2 V2 : List Int) (ak2 av2 : Option Addr) (nk2 ck2 nv2 cv2 q q' : Nat) (w : World) (HK : ReadsInt w .u64 ak nk Ks) (HV : ReadsInt w .u64 av nv V) (hm : min nk nv = m) (henv : w.heap[ge]? = some (.cells #[.bool L2, .slice ak2 nk2 ck2, .slice av2 nv2 cv2] 24)) (HK2 : ReadsInt w .u64 ak2 nk2 K2) (HV2 : ReadsInt w .u64 av2 nv2 V2) (hq : m + nk2 = q) (hq' : m + nv2 = q') (hs2 : q * 8 ≤ 140737488355328 ∧ q' * 8 ≤ 140737488355328) (hk : nk ≤ ck ∧ nv ≤ cv) (hn : ak = none → ck = 0) (hn' : av = none → cv = 0) (hs : m * 8 ≤ 140737488355328) :
    Calls Try.prog 47 #[.agg #[.bool L, .slice ak nk ck, .slice av nv cv], .func (.func 51) #[] #[.pointer (some ⟨ge, 0, none⟩)]] w fun e w' => NB w w' e L q q' (Ks.take m ++ K2) (V.take m ++ V2) := by
  obtain ⟨w1, hw1, b1, f1, s1⟩ := made w #[.bool L, .slice ak nk ck, .slice av nv cv] 24
  obtain ⟨w2, hw2, b2, f2, s2⟩ := made w1 #[.bool false, .slice none 0 0, .slice none 0 0] 24
  have B2 := Lib.hid (below_then' b1 b2)
  have P2 := Lib.hid (keep_row f1 b2)
  have Q2 := Lib.hid f2
  have SP := Lib.hid (show w.heap.size < w2.heap.size ∧ w1.heap.size < w2.heap.size ∧ w.heap.size ≤ w1.heap.size by omega)
  have RK := Lib.hid (HK.below B2.out)
  have RV := Lib.hid (HV.below B2.out)
  have HM := Lib.hid hm
  have HC := Lib.hid (And.intro hk (And.intro hn hn'))
  have HS := Lib.hid (And.intro HK.2.1 (And.intro HV.2.1 hs))
  have HL := Lib.hid (And.intro HK.1 HV.1)
  have HE := Lib.hid (keep_row henv B2.out)
  have HR2 := Lib.hid (And.intro (HK2.below B2.out) (HV2.below B2.out))
  have HQ := Lib.hid (And.intro hq (And.intro hq' hs2))
  have HLK := Lib.hid (show (Ks.take m).length = m by rw [List.length_take, HK.1]; omega)
  have HLV := Lib.hid (show (V.take m).length = m by rw [List.length_take, HV.1]; omega)
  clear b1 f1 s1 b2 f2 s2 HK HV hm hk hn hn' hs henv HK2 HV2 hq hq' hs2
  go_enter Try.func47, Try.ntmps47
  go_wp2_with ((with_reducible refine wpList_load_row rfl 24 (.tmp 2) rfl w.heap.size ?_ 24 _ _ _ P2.out Try.underlying24 ?_ (size3 _ _ _) ?_); rfl; rfl)
  refine (count_at L ak av nk ck nv cv m _ HM.out HS.out.1 HS.out.2.1).mono ?_; rintro e w3 ⟨rfl, hb⟩
  have B3 := Lib.hid (below_then' B2.out hb)
  have P3 := Lib.hid (keep_row P2.out hb)
  have Q3 := Lib.hid (keep_row Q2.out hb)
  have RK3 := Lib.hid (RK.out.below hb)
  have RV3 := Lib.hid (RV.out.below hb)
  have SP3 := Lib.hid (show w2.heap.size ≤ w3.heap.size from hb.size)
  have HE3 := Lib.hid (keep_row HE.out hb)
  have HR3 := Lib.hid (And.intro (HR2.out.1.below hb) (HR2.out.2.below hb))
  have hmk : (m : Int) ≤ (ck : Int) := by have h1 := HM.out; have h2 := HC.out.1; omega
  have hmv : (m : Int) ≤ (cv : Int) := by have h1 := HM.out; have h2 := HC.out.1; omega
  have hmk' : m ≤ ck := by omega
  have hmv' : m ≤ cv := by omega
  clear hb hw1 hw2
  go_wp2_with fail
  refine start_ (n := 20) (S := fun w' => w'.cell? ⟨w.heap.size, 0, none⟩ = some (.bool L) ∧ w'.cell? ⟨w.heap.size, 1, none⟩ = some (.slice ak nk ck) ∧ w'.cell? ⟨w.heap.size, 2, none⟩ = some (.slice av nv cv)) (ds := [19]) #[false, false, false, false, false, false, false, false, false, false, false, false, false, false, false, false, false, false, false, false] (by kernel_rfl) rfl rfl ⟨cell_row P3.out rfl, cell_row P3.out rfl, cell_row P3.out rfl⟩ (fun hHeld => ?_)
  refine pure_ (i := 0) (N := some 8) (v := ?_) (a' := ?_) #[true, false, false, false, false, false, false, false, false, false, false, false, false, false, false, false, false, false, false, false] rfl rfl (by kernel_rfl) (fun _ _ _ h => h) (Or.inl ⟨by rfl, ?_⟩) ?_ ?_
  rotate_left
  · intro w'
    go_simp
    with_reducible rfl
  rotate_left
  · simp only [Act.put, List.setIfInBounds_toArray, List.set_cons_zero, List.set_cons_succ, i64_w, i32_w]
    rfl
  refine pure_ (i := 2) (N := some 10) (v := ?_) (a' := ?_) #[true, false, true, false, false, false, false, false, false, false, false, false, false, false, false, false, false, false, false, false] rfl rfl (by kernel_rfl) (fun _ _ _ h => h) (Or.inl ⟨by rfl, ?_⟩) ?_ ?_
  rotate_left
  · intro w'
    go_simp
    with_reducible rfl
  rotate_left
  · simp only [Act.put, List.setIfInBounds_toArray, List.set_cons_zero, List.set_cons_succ, i64_w, i32_w]
    rfl
  refine pure_ (i := 3) (N := some 11) (v := ?_) (a' := ?_) #[true, false, true, true, false, false, false, false, false, false, false, false, false, false, false, false, false, false, false, false] rfl rfl (by kernel_rfl) (fun _ _ _ h => h) (Or.inl ⟨by rfl, ?_⟩) ?_ ?_
  rotate_left
  · intro w'
    go_simp
    with_reducible rfl
  rotate_left
  · simp only [Act.put, List.setIfInBounds_toArray, List.set_cons_zero, List.set_cons_succ, i64_w, i32_w]
    rfl
  refine pure_ (i := 5) (N := some 13) (v := ?_) (a' := ?_) #[true, false, true, true, false, true, false, false, false, false, false, false, false, false, false, false, false, false, false, false] rfl rfl (by kernel_rfl) (fun _ _ _ h => h) (Or.inl ⟨by rfl, ?_⟩) ?_ ?_
  rotate_left
  · intro w'
    go_simp
    with_reducible rfl
  rotate_left
  · simp only [Act.put, List.setIfInBounds_toArray, List.set_cons_zero, List.set_cons_succ, i64_w, i32_w]
    rfl
  refine pure_ (i := 6) (N := some 14) (v := ?_) (a' := ?_) #[true, false, true, true, false, true, true, false, false, false, false, false, false, false, false, false, false, false, false, false] rfl rfl (by kernel_rfl) (fun _ _ _ h => h) (Or.inl ⟨by rfl, ?_⟩) ?_ ?_
  rotate_left
  · intro w'
    go_simp
    with_reducible rfl
  rotate_left
  · simp only [Act.put, List.setIfInBounds_toArray, List.set_cons_zero, List.set_cons_succ, i64_w, i32_w]
    rfl
  refine pure_ (i := 10) (N := some 18) (v := ?_) (a' := ?_) #[true, false, true, true, false, true, true, false, false, false, true, false, false, false, false, false, false, false, false, false] rfl rfl (by kernel_rfl) (fun _ _ _ h => h) (Or.inl ⟨by rfl, ?_⟩) ?_ ?_
  rotate_left
  · intro w'
    go_simp
    with_reducible rfl
  rotate_left
  · simp only [Act.put, List.setIfInBounds_toArray, List.set_cons_zero, List.set_cons_succ, i64_w, i32_w]
    rfl
  refine pure_ (i := 11) (N := some 19) (v := ?_) (a' := ?_) #[true, false, true, true, false, true, true, false, false, false, true, true, false, false, false, false, false, false, false, false] rfl rfl (by kernel_rfl) (fun _ _ _ h => h) (Or.inl ⟨by rfl, ?_⟩) ?_ ?_
  rotate_left
  · intro w'
    go_simp
    with_reducible rfl
  rotate_left
  · simp only [Act.put, List.setIfInBounds_toArray, List.set_cons_zero, List.set_cons_succ, i64_w, i32_w]
    rfl
  refine pure_ (i := 13) (N := some 21) (v := ?_) (a' := ?_) #[true, false, true, true, false, true, true, false, false, false, true, true, false, true, false, false, false, false, false, false] rfl rfl (by kernel_rfl) (fun _ _ _ h => h) (Or.inl ⟨by rfl, ?_⟩) ?_ ?_
  rotate_left
  · intro w'
    go_simp
    with_reducible rfl
  rotate_left
  · simp only [Act.put, List.setIfInBounds_toArray, List.set_cons_zero, List.set_cons_succ, i64_w, i32_w]
    rfl
  refine pure_ (i := 14) (N := some 22) (v := ?_) (a' := ?_) #[true, false, true, true, false, true, true, false, false, false, true, true, false, true, true, false, false, false, false, false] rfl rfl (by kernel_rfl) (fun _ _ _ h => h) (Or.inl ⟨by rfl, ?_⟩) ?_ ?_
  rotate_left
  · intro w'
    go_simp
    with_reducible rfl
  rotate_left
  · simp only [Act.put, List.setIfInBounds_toArray, List.set_cons_zero, List.set_cons_succ, i64_w, i32_w]
    rfl
  refine take_ (i := 1) (N := some 9) (v := ?_) (a' := ?_) #[true, true, true, true, false, true, true, false, false, false, true, true, false, true, true, false, false, false, false, false] rfl rfl (by kernel_rfl) (fun _ _ _ h => h) (Or.inl ⟨by rfl, ?_⟩) hHeld ?_ ?_
  rotate_left
  · rintro w' ⟨s0, s1, s2⟩
    go_simp
    with_reducible rfl
  rotate_left
  · simp only [Act.put, List.setIfInBounds_toArray, List.set_cons_zero, List.set_cons_succ, i64_w, i32_w]
    rfl
  refine take_ (i := 4) (N := some 12) (v := ?_) (a' := ?_) #[true, true, true, true, true, true, true, false, false, false, true, true, false, true, true, false, false, false, false, false] rfl rfl (by kernel_rfl) (fun _ _ _ h => h) (Or.inl ⟨by rfl, ?_⟩) hHeld ?_ ?_
  rotate_left
  · rintro w' ⟨s0, s1, s2⟩
    go_simp
    with_reducible rfl
  rotate_left
  · simp only [Act.put, List.setIfInBounds_toArray, List.set_cons_zero, List.set_cons_succ, i64_w, i32_w]
    rfl
  refine pure_ (i := 7) (N := some 15) (v := ?_) (a' := ?_) #[true, true, true, true, true, true, true, true, false, false, true, true, false, true, true, false, false, false, false, false] rfl rfl (by kernel_rfl) (fun _ _ _ h => h) (Or.inl ⟨by rfl, ?_⟩) ?_ ?_
  rotate_left
  · intro w'
    go_simp
    with_reducible rfl
  rotate_left
  · simp only [Act.put, List.setIfInBounds_toArray, List.set_cons_zero, List.set_cons_succ, i64_w, i32_w]
    rfl
  refine take_ (i := 12) (N := some 20) (v := ?_) (a' := ?_) #[true, true, true, true, true, true, true, true, false, false, true, true, true, true, true, false, false, false, false, false] rfl rfl (by kernel_rfl) (fun _ _ _ h => h) (Or.inl ⟨by rfl, ?_⟩) hHeld ?_ ?_
  rotate_left
  · rintro w' ⟨s0, s1, s2⟩
    go_simp
    with_reducible rfl
  rotate_left
  · simp only [Act.put, List.setIfInBounds_toArray, List.set_cons_zero, List.set_cons_succ, i64_w, i32_w]
    rfl
  refine pure_ (i := 15) (N := some 23) (v := ?_) (a' := ?_) #[true, true, true, true, true, true, true, true, false, false, true, true, true, true, true, true, false, false, false, false] rfl rfl (by kernel_rfl) (fun _ _ _ h => h) (Or.inl ⟨by rfl, ?_⟩) ?_ ?_
  rotate_left
  · intro w'
    go_simp
    with_reducible rfl
  rotate_left
  · simp only [Act.put, List.setIfInBounds_toArray, List.set_cons_zero, List.set_cons_succ, i64_w, i32_w]
    rfl
  refine one_ (i := 8) (N := some 16) #[true, true, true, true, true, true, true, true, true, false, true, true, true, true, true, true, false, false, false, false] rfl rfl (by kernel_rfl) (by decide) (fun K hK => ?_)
  refine goes_ Try.func65 (by kernel_rfl) rfl #[.slice ak m m] (by rfl) rfl rfl (by simp only [List.map_toArray, List.map_cons, List.map_nil]; rfl) ?_
  with_reducible refine (clone_any (Ks.take m) ak m m _ (ReadsInt.take_ (reads_drew RK3.out) m (by have := HM.out; omega)) HS.out.2.2 (by have h1 := HC.out.2.1; intro h; have := h1 h; have := hmk'; omega)).mono ?_
  rintro e w4 ⟨A4, c4, rfl, ho, hb⟩
  refine ⟨_, rfl, ?_⟩
  have BB4 := Lib.hid hb
  have OK4 := Lib.hid ho
  have P4 := Lib.hid (keep_row (w := w3.drew) P3.out hb)
  have Q4 := Lib.hid (keep_row (w := w3.drew) Q3.out hb)
  have RV4 := Lib.hid (ReadsInt.below (reads_drew RV3.out) hb)
  have HE4 := Lib.hid (keep_row (w := w3.drew) HE3.out hb)
  have HR4 := Lib.hid (And.intro (ReadsInt.below (reads_drew HR3.out.1) hb) (ReadsInt.below (reads_drew HR3.out.2) hb))
  clear ho hb
  refine hK.out _ _ ⟨cell_row P4.out rfl, cell_row P4.out rfl, cell_row P4.out rfl⟩ (fun hHeld => ?_)
  clear hK K
  refine norm_ (a' := ?_) ?_ ?_
  rotate_left
  · show Act.put _ (some 16) _ = _
    simp only [Act.put, List.setIfInBounds_toArray, List.set_cons_zero, List.set_cons_succ, i64_w, i32_w]
    rfl
  refine one_ (i := 9) (N := some 17) #[true, true, true, true, true, true, true, true, true, true, true, true, true, true, true, true, false, false, false, false] rfl rfl (by kernel_rfl) (by decide) (fun K hK => ?_)
  refine goes_fv Try.func51 (by kernel_rfl) rfl (.tmp 10) #[] #[.pointer (some ⟨ge, 0, none⟩)] #[.slice A4 m c4, .bool true, .pointer (some ⟨ge, 0, none⟩)] (by rfl) rfl rfl rfl (by simp only [List.map_toArray, List.map_cons, List.map_nil]; rfl) ?_
  with_reducible refine (more_k A4 m c4 ge w3.drew.heap.size (Ks.take m) K2 V2 L2 ak2 av2 nk2 ck2 nv2 cv2 q _ HE4.out HR4.out.1 HR4.out.2 OK4.out HLK.out BB4.out.size HQ.out.1 HQ.out.2.2.1).mono ?_
  rintro e w5 ⟨A5, c5, rfl, ho, hb, hgr, hat⟩
  refine ⟨_, rfl, ?_⟩
  have BB5 := Lib.hid (BB4.out.trans hb)
  have OK5 := Lib.hid ho
  have P5 := Lib.hid (keep_row (w := w3.drew) P3.out BB5.out)
  have Q5 := Lib.hid (keep_row (w := w3.drew) Q3.out BB5.out)
  have RV5 := Lib.hid (ReadsInt.below (reads_drew RV3.out) BB5.out)
  have HE5 := Lib.hid (keep_row (w := w3.drew) HE3.out BB5.out)
  have HR5 := Lib.hid (And.intro (ReadsInt.below (reads_drew HR3.out.1) BB5.out) (ReadsInt.below (reads_drew HR3.out.2) BB5.out))
  clear ho hb hgr hat
  refine hK.out _ _ ⟨cell_row P5.out rfl, cell_row P5.out rfl, cell_row P5.out rfl⟩ (fun hHeld => ?_)
  clear hK K
  refine norm_ (a' := ?_) ?_ ?_
  rotate_left
  · show Act.put _ (some 17) _ = _
    simp only [Act.put, List.setIfInBounds_toArray, List.set_cons_zero, List.set_cons_succ, i64_w, i32_w]
    rfl
  refine one_ (i := 16) (N := some 24) #[true, true, true, true, true, true, true, true, true, true, true, true, true, true, true, true, true, false, false, false] rfl rfl (by kernel_rfl) (by decide) (fun K hK => ?_)
  refine goes_ Try.func65 (by kernel_rfl) rfl #[.slice av m m] (by rfl) rfl rfl (by simp only [List.map_toArray, List.map_cons, List.map_nil]; rfl) ?_
  with_reducible refine (clone_any (V.take m) av m m _ (ReadsInt.take_ RV5.out m (by have := HM.out; omega)) HS.out.2.2 (by have h1 := HC.out.2.2; intro h; have := h1 h; have := hmv'; omega)).mono ?_
  rintro e w6 ⟨A6, c6, rfl, ho, hb⟩
  refine ⟨_, rfl, ?_⟩
  have BB6 := Lib.hid (below_then BB5.out BB5.out.size hb)
  have OV6 := Lib.hid ho
  have OK6 := Lib.hid (pw_own_below OK5.out hb)
  have AP6 := Lib.hid (apart_own (p := 0) OK5.out ho (Nat.le_refl _))
  have P6 := Lib.hid (keep_row (w := w3.drew) P3.out BB6.out)
  have Q6 := Lib.hid (keep_row (w := w3.drew) Q3.out BB6.out)
  have HE6 := Lib.hid (keep_row (w := w3.drew) HE3.out BB6.out)
  have HR6 := Lib.hid (And.intro (ReadsInt.below (reads_drew HR3.out.1) BB6.out) (ReadsInt.below (reads_drew HR3.out.2) BB6.out))
  have OVB6 := Lib.hid (own_weaken OV6.out BB5.out.size)
  clear ho hb
  refine hK.out _ _ ⟨cell_row P6.out rfl, cell_row P6.out rfl, cell_row P6.out rfl⟩ (fun hHeld => ?_)
  clear hK K
  refine norm_ (a' := ?_) ?_ ?_
  rotate_left
  · show Act.put _ (some 24) _ = _
    simp only [Act.put, List.setIfInBounds_toArray, List.set_cons_zero, List.set_cons_succ, i64_w, i32_w]
    rfl
  refine one_ (i := 17) (N := some 25) #[true, true, true, true, true, true, true, true, true, true, true, true, true, true, true, true, true, true, false, false] rfl rfl (by kernel_rfl) (by decide) (fun K hK => ?_)
  refine goes_fv Try.func51 (by kernel_rfl) rfl (.tmp 18) #[] #[.pointer (some ⟨ge, 0, none⟩)] #[.slice A6 m c6, .bool false, .pointer (some ⟨ge, 0, none⟩)] (by rfl) rfl rfl rfl (by simp only [List.map_toArray, List.map_cons, List.map_nil]; rfl) ?_
  with_reducible refine (more_v A6 m c6 ge w3.drew.heap.size (V.take m) K2 V2 L2 ak2 av2 nk2 ck2 nv2 cv2 q' _ HE6.out HR6.out.1 HR6.out.2 OVB6.out HLV.out BB6.out.size HQ.out.2.1 HQ.out.2.2.2).mono ?_
  rintro e w7 ⟨A7, c7, rfl, ho, hb, hgr, hat⟩
  refine ⟨_, rfl, ?_⟩
  have BB7 := Lib.hid (BB6.out.trans hb)
  have OV7 := Lib.hid ho
  have hne : (Value.slice A5 q c5).ownBlock = none ∨ (Value.slice A5 q c5).ownBlock ≠ (Value.slice A6 m c6).ownBlock := by
    cases hA5 : A5 with
    | none => exact .inl rfl
    | some a5 =>
      cases hA6 : A6 with
      | none => exact .inr (by simp [Value.ownBlock])
      | some a6 => exact .inr (by intro he; simp only [Value.ownBlock] at he; injection he with he; exact AP6.out a5 a6 hA5 hA6 he)
  have OK7 := Lib.hid (own_other OK6.out hgr hne)
  have AP7 := Lib.hid (apart_grown AP6.out OK6.out hat)
  have P7 := Lib.hid (keep_row (w := w3.drew) P3.out BB7.out)
  have Q7 := Lib.hid (keep_row (w := w3.drew) Q3.out BB7.out)
  clear ho hb hgr hat hne
  refine hK.out _ _ ⟨cell_row P7.out rfl, cell_row P7.out rfl, cell_row P7.out rfl⟩ (fun hHeld => ?_)
  clear hK K
  refine norm_ (a' := ?_) ?_ ?_
  rotate_left
  · show Act.put _ (some 25) _ = _
    simp only [Act.put, List.setIfInBounds_toArray, List.set_cons_zero, List.set_cons_succ, i64_w, i32_w]
    rfl
  refine pure_ (i := 18) (N := some 26) (v := ?_) (a' := ?_) #[true, true, true, true, true, true, true, true, true, true, true, true, true, true, true, true, true, true, true, false] rfl rfl (by kernel_rfl) (fun _ _ _ h => h) (Or.inl ⟨by rfl, ?_⟩) ?_ ?_
  rotate_left
  · intro w'
    go_simp
    with_reducible rfl
  rotate_left
  · simp only [Act.put, List.setIfInBounds_toArray, List.set_cons_zero, List.set_cons_succ, i64_w, i32_w]
    rfl
  refine last_ (i := 19) (N := none) #[true, true, true, true, true, true, true, true, true, true, true, true, true, true, true, true, true, true, true, true] rfl rfl (by kernel_rfl) (by decide) (fun K hK => ?_)
  refine skip_ (w1 := w7.setRow w1.heap.size #[.bool L, (.slice A5 q c5), (.slice A7 q' c7)]) (by rfl) rfl (exec_store_row 24 _ _ rfl w1.heap.size #[.bool L, (.slice A5 q c5), (.slice A7 q' c7)] (by rfl) (by rfl) 24 _ Q7.out (size3 _ _ _) rfl (one3 _ _ _ _ _ _ _)) ?_
  obtain ⟨w8, hw8⟩ : ∃ w8, w8 = w7.setRow w1.heap.size #[.bool L, (.slice A5 q c5), (.slice A7 q' c7)] := ⟨_, rfl⟩
  rw [← hw8]
  have HW8 := Lib.hid hw8
  clear hw8
  refine hK.out _ _ ?_
  clear hK K
  refine done_ (by kernel_rfl) ?_
  have hbase : w2.heap.size ≤ w3.drew.heap.size := SP3.out
  have hk8 : w8.heap[w1.heap.size]? = some (.cells #[.bool L, (.slice A5 q c5), (.slice A7 q' c7)] 24) := by rw [HW8.out]; exact setRow_heap _ _ _ _ _ _ Q7.out
  have ok8 := own_setRow (g := w1.heap.size) OK7.out (own_ne OK7.out (by have := SP.out; omega)) #[.bool L, (.slice A5 q c5), (.slice A7 q' c7)]
  have ov8 := own_setRow (g := w1.heap.size) OV7.out (own_ne OV7.out (by have h1 := SP.out; have h2 := BB7.out.size; omega)) #[.bool L, (.slice A5 q c5), (.slice A7 q' c7)]
  rw [← HW8.out] at ok8 ov8
  have b8 : Below w.heap.size w w8 := by rw [HW8.out]; exact below_setRow (below_then (below_drew B3.out) (below_drew B3.out).size BB7.out) SP.out.2.2 _
  have hbw : w.heap.size ≤ w3.drew.heap.size := by have h1 := SP.out; omega
  have hbv : w.heap.size ≤ w3.drew.heap.size := hbw
  go_wp2_with fail
  refine ret_c 4 rfl w1.heap.size #[.bool L, (.slice A5 q c5), (.slice A7 q' c7)] (0, 0) rfl hk8 rfl rfl ?_
  have l1 : (Ks.take m ++ K2).length = q := by rw [List.length_append, HLK.out, HR2.out.1.1, HQ.out.1]
  have l2 : (V.take m ++ V2).length = q' := by rw [List.length_append, HLV.out, HR2.out.2.1, HQ.out.2.1]
  have t1 := mine_take ok8 l1 (Nat.le_refl q)
  have t2 := mine_take ov8 l2 (Nat.le_refl q')
  rw [List.take_of_length_le (by rw [l1]; exact Nat.le_refl _)] at t1
  rw [List.take_of_length_le (by rw [l2]; exact Nat.le_refl _)] at t2
  exact ⟨A5, c5, A7, c7, rfl, mine_weaken t1 hbw, mine_weaken t2 hbv, AP7.out, own_cap ok8, own_cap ov8, own_nilc ok8, own_nilc ov8, b8⟩
end Go.Proofs.Ytdekplalhfpooaa.Knt
