/- Knots: a number put into a row, as 'append(l[:i:i], append([]uint64{x}, l[i:]...)...)' does it. -/
import Derived.BigQuiet
import Derived.ArgAppend
import Derived.Test.YtdekplalhfpooaaHlq
import Derived.Test.YtdekplalhfpooaaKntH
set_option linter.unusedVariables false
set_option linter.unusedSimpArgs false
namespace Go.Proofs.Ytdekplalhfpooaa.Knt
open Go Go.RowKit Go.Proofs.YtdekplalhfpooaaW.PrintWords Go.Proofs.YtdekplalhfpooaaW.PrintLast Go.Proofs.YtdekplalhfpooaaW.PrintMore Base Odr Hlp Nod

theorem nums_one (ys : List Int) : ∀ u ∈ nums .u64 ys, u.oneCell' = true := by
  intro u hu
  simp only [nums, List.mem_map] at hu
  obtain ⟨q, _, rfl⟩ := hu
  rfl
theorem reads_cells {W : World} {ad : Addr} {m : Nat} {ys : List Int} (HR : ReadsInt W .u64 (some ad) m ys) : ∀ (j : Nat) (u : Value), (nums .u64 ys)[j]? = some u → W.cell? (ad.add j) = some u := by
  intro j u hu
  have hj : j < ys.length := by
    rcases Nat.lt_or_ge j ys.length with h | h
    · exact h
    · simp [nums, List.getElem?_eq_none h] at hu
  obtain ⟨ad', h', hc⟩ := HR.2.2 (by have := HR.1; omega)
  injection h' with h'
  subst h'
  have := hc j (by have := HR.1; omega)
  simp [nums, List.getElem?_eq_getElem hj] at hu
  subst hu
  rw [this]
  simp [List.getD_eq_getElem?_getD, List.getElem?_eq_getElem hj]
theorem info64' : ∃ i, Try.prog.info? 25 = some i ∧ i.zero = some (.int .u64 0) ∧ i.size = 1 ∧ i.bytes = 8 := by
  obtain ⟨i, hi, hzz⟩ := Option.map_eq_some_iff.1 info64
  simp only [Prod.mk.injEq] at hzz
  exact ⟨i, hi, hzz⟩
/-- append(v, ys...) to a row of one's own: its run. -/
theorem app_row {W : World} {B n m c : Nat} {v : Value} {A : Option Addr} {xs ys : List Int} (ho : W.ownsRow B 25 1 v n (nums .u64 xs)) (hx : xs.length = n) (HR : ReadsInt W .u64 A m ys) (hs : (n + m) * 8 ≤ 140737488355328) (hB : B ≤ W.heap.size) (hm : A = none → m = 0 ∧ c = 0) :
    ∃ A1 c1 W1, (∀ ty, (Builtin.append_ #[22, 22] ty #[v, .slice A m c]).run Try.prog W = .ok (.slice A1 (n + m) c1) W1) ∧ W1.ownsRow B 25 1 (.slice A1 (n + m) c1) (n + m) (nums .u64 (xs ++ ys)) ∧ W.grownBy W1 v.ownBlock ∧
      ((Value.slice A1 (n + m) c1).ownBlock = v.ownBlock ∨ (Value.slice A1 (n + m) c1).ownBlock = some W.heap.size) := by
  obtain ⟨i, hi, hz0, hz1, hz2⟩ := info64'
  have key : ∃ v1 W1, (Builtin.append_ #[22, 22] 0 #[v, .slice A m c]).run Try.prog W = .ok v1 W1 ∧ W1.ownsRow B 25 1 v1 (n + m) (nums .u64 (xs ++ ys)) ∧ W.grownBy W1 v.ownBlock ∧ (v1.ownBlock = v.ownBlock ∨ v1.ownBlock = some W.heap.size) := by
    cases A with
    | none =>
      obtain ⟨rfl, rfl⟩ := hm rfl
      obtain rfl : ys = [] := List.eq_nil_of_length_eq_zero HR.1
      have h := run_append_owned_none (P := Try.prog) (w := W) B 22 0 25 i 1 Try.underlying22 hi v n (nums .u64 xs) ho
      exact ⟨v, W, h, by simpa using ho, World.grownBy.refl W _, .inl rfl⟩
    | some ad =>
      obtain ⟨v1, w1, hr, h2, h3, _, h5⟩ := run_append_own_at (P := Try.prog) (w := W) B 22 0 25 i (.int .u64 0) 1 8 Try.underlying22 hi hz0 hz1 hz2 rfl (by omega) v n (nums .u64 xs) ho ad m c (nums .u64 ys) (by simp [nums, HR.1]) (reads_cells HR)
        (nums_one ys) (by simp only [maxLen]; omega) hs hB
      exact ⟨v1, w1, hr, by rw [nums_append]; exact h2, h3, h5⟩
  obtain ⟨v1, W1, hr, h2, h3, h4⟩ := key
  obtain ⟨A1, c1, rfl⟩ := own_slice h2
  exact ⟨A1, c1, W1, fun ty => hr, h2, h3, h4⟩
theorem ins_rows {W : World} {B at_ q c d cd : Nat} {A AD : Option Addr} {K : List Int} {key : Int} (ho : W.ownsRow B 25 1 (.slice A q c) q (nums .u64 K)) (hk : K.length = q) (ha : at_ ≤ q) (hd : q - at_ = d) (hr : ReadsInt W .u64 AD d (K.drop at_)) (hn : AD = none → d = 0 ∧ cd = 0) (hB : B ≤ W.heap.size) (hs : (q + 1) * 8 ≤ 140737488355328) :
    ∃ A1 c1 W2 A2 c2 W3, (∀ ty, (Builtin.append_ #[22, 22] ty #[.slice (some ⟨W.heap.size, 0, none⟩) 1 1, .slice AD d cd]).run Try.prog (W.alloc (.cells #[.int .u64 key] 25)) = .ok (.slice A1 (1 + d) c1) W2) ∧
      (∀ ty, (Builtin.append_ #[22, 22] ty #[.slice A at_ at_, .slice A1 (1 + d) c1]).run Try.prog W2 = .ok (.slice A2 (q + 1) c2) W3) ∧ W3.ownsRow B 25 1 (.slice A2 (q + 1) c2) (q + 1) (nums .u64 (K.take at_ ++ key :: K.drop at_)) ∧
      (∀ p, (Value.slice A2 (q + 1) c2).ownBlock = some p → W.heap.size ≤ p) ∧ Below W.heap.size W W2 ∧ Below W.heap.size W W3 := by
  obtain ⟨i, hi, hz0, hz1, hz2⟩ := info64'
  have b1 : Below W.heap.size W (W.alloc (.cells #[.int .u64 key] 25)) := (Below.refl _ _).alloc (Nat.le_refl _) _
  have o1 : (W.alloc (.cells #[.int .u64 key] 25)).ownsRow W.heap.size 25 1 (.slice (some ⟨W.heap.size, 0, none⟩) 1 1) 1 (nums .u64 [key]) :=
    ⟨rfl, .inr ⟨W.heap.size, 1, #[.int .u64 key], rfl, Nat.le_refl _, heap_alloc_new _ _, Nat.le_refl _, by simp [maxLen], rfl, rfl⟩⟩
  obtain ⟨A1, c1, W2, r2, o2, g2, -⟩ := app_row (c := cd) o1 rfl (hr.below b1) (by omega) (by rw [World.size_alloc]; omega) hn
  have b2 : Below W.heap.size W W2 := pw_below_grown b1 _ (by rw [World.size_alloc]; omega) g2 (fun k hk => by simp only [Value.ownBlock] at hk; injection hk with hk; omega)
  have rd2 := own_reads' o2
  have e1 : ([key] ++ K.drop at_) = key :: K.drop at_ := rfl
  rw [e1] at o2 rd2
  have hq : at_ + (1 + d) = q + 1 := by omega
  obtain ⟨g1, cap1, he1, hg1, -⟩ := o2.form (by omega)
  injection he1 with he1 he2 he3
  subst he1
  have hlen : ((K.take at_) ++ key :: K.drop at_).length = q + 1 := by rw [List.length_append, List.length_take, List.length_cons, List.length_drop]; omega
  cases A with
  | none =>
    obtain ⟨rfl, rfl⟩ := own_nilc ho rfl
    obtain rfl : at_ = 0 := by omega
    obtain rfl : K = [] := List.eq_nil_of_length_eq_zero hk
    obtain ⟨A2, c2, W3, r3, o3, g3, -⟩ := app_row (W := W2) (B := W.heap.size) (v := .slice none 0 0) (n := 0) (xs := []) (c := c1) (own_nil _ _ _ _) rfl rd2 (by omega) b2.size (fun h => by cases h)
    have h0 : 0 + (1 + d) = 0 + 1 := by omega
    rw [h0] at r3 o3
    have b3 : Below W.heap.size W W3 := pw_below_grown b2 _ b2.size g3 (fun k hk => by simp [Value.ownBlock] at hk)
    exact ⟨_, c1, W2, A2, c2, W3, r2, r3, own_weaken o3 hB, fun p hp => own_base o3 p hp, b2, b3⟩
  | some a0 =>
    have hcells := ho.2
    rcases hcells with ⟨hv, -⟩ | ⟨g, cap, cur, hv, hg, hh, hnc, hm, hsz, ht⟩
    · cases hv
    · injection hv with hv1 hv2 hv3
      injection hv1 with hv1
      subst hv1
      have holds : ∀ (j : Nat) (u : Value), (nums .u64 (K.take at_))[j]? = some u → W2.cell? ((⟨g, 0, none⟩ : Addr).add j) = some u := by
        intro j u hu
        have h1 : (nums .u64 K)[j]? = some u := by
          unfold nums at hu ⊢
          rw [List.getElem?_map, List.getElem?_take] at hu
          split at hu
          · rw [List.getElem?_map]; exact hu
          · simp at hu
        have h2 := ho.cells (g := g) rfl j u h1
        exact pw_cell_below b2 h2
      obtain ⟨v2, W3, r3, o3, g3⟩ := run_append_arg_grows (P := Try.prog) W2 22 0 25 i (.int .u64 0) 1 8 Try.underlying22 hi hz0 hz1 hz2 rfl (by omega) ⟨g, 0, none⟩ at_ at_ (nums .u64 (K.take at_)) (by simp [nums]; omega) holds ⟨g1, 0, none⟩ (1 + d) c1 (nums .u64 (key :: K.drop at_)) (by rw [nums_length, List.length_cons, List.length_drop]; omega) (reads_cells rd2) (by omega) (by simp only [maxLen]; omega) (by omega)
      obtain ⟨A2, c2, rfl⟩ := own_slice o3
      rw [← nums_append, hq] at o3
      rw [hq] at r3
      have b3 : Below W.heap.size W W3 := pw_below_grown b2 _ b2.size g3 (fun k hk => by cases hk)
      exact ⟨_, c1, W2, A2, c2, W3, r2, fun ty => r3, own_weaken o3 (Nat.le_trans hB b2.size), fun p hp => Nat.le_trans b2.size (own_base o3 p hp), b2, b3⟩
theorem St_new_k {w W W' : World} {base gN : Nat} {tN e : TypeId} {nd : Array Value} {R : List (Nat × Obj)} {vk vv vk' : Value} {nk nv nk' : Nat} {K V K' : List Int} (h : St w base gN tN e nd R vk vv nk nv K V W) (hb : Below W.heap.size W W') (ho : W'.ownsRow base e 1 vk' nk' (nums .u64 K')) (hp : ∀ p, vk'.ownBlock = some p → W.heap.size ≤ p) :
    St w base gN tN e nd R vk' vv nk' nv K' V W' := by
  have h2 := St.below h hb
  refine ⟨ho, h2.ov, fun p hp1 hp2 => ?_, h2.node, h2.rows, h2.bel, h2.lt, h2.le, h2.hN⟩
  have h3 := hp p hp1
  have h4 := own_lt h.ov p hp2
  omega
theorem St_app_v {w W W' : World} {base gN : Nat} {tN e : TypeId} {nd : Array Value} {R : List (Nat × Obj)} {vk vv vv' : Value} {nk nv nv' : Nat} {K V V' : List Int} (h : St w base gN tN e nd R vk vv nk nv K V W) (ho : W'.ownsRow base e 1 vv' nv' (nums .u64 V')) (hg : W.grownBy W' vv.ownBlock) (hv : vv'.ownBlock = vv.ownBlock ∨ ∃ b, vv'.ownBlock = some b ∧ W.heap.size ≤ b) :
    St w base gN tN e nd R vk vv' nk nv' K V' W' := by
  have hr : ∀ k, vv.ownBlock = some k → base ≤ k := fun k hk => own_base h.ov k hk
  refine ⟨own_other h.ok hg ?_, ho, ?_, h.keep hg hr h.node h.lt, fun p hp => ⟨h.keep hg hr (h.rows p hp).1 (h.rows p hp).2.1, (h.rows p hp).2⟩, pw_below_grown h.bel _ h.bel.size hg (fun k hk => Nat.le_trans h.hN (Nat.le_trans (Nat.le_of_lt h.lt) (hr k hk))), h.lt, Nat.le_trans h.le hg.size, h.hN⟩
  · cases hvk : vk.ownBlock with
    | none => exact .inl rfl
    | some p => exact .inr fun hh => h.sep p hvk hh.symm
  · intro p hp hq
    rcases hv with hv | ⟨b, hv, hbb⟩
    · exact h.sep p hp (hv ▸ hq)
    · rw [hv] at hq
      injection hq with hq
      have := own_lt h.ok p hp
      omega
end Go.Proofs.Ytdekplalhfpooaa.Knt
