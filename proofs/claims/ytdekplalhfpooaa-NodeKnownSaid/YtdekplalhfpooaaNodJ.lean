/- bytes.Equal; what the document's examples say (awake): by their contracts. -/
import Derived.Test.YtdekplalhfpooaaNodI
set_option linter.unusedVariables false
set_option linter.unusedSimpArgs false
namespace Go.Proofs.Ytdekplalhfpooaa.Nod
open Go Go.RowKit Go.Proofs.YtdekplalhfpooaaW.PrintWords Go.Proofs.YtdekplalhfpooaaW.PrintLast Go.Proofs.YtdekplalhfpooaaW.PrintMore Base Odr Hlp

theorem wp_app {ops : Array Oper} {rest : List Oper} {o : Oper} {a : Act} {Q : Exit → Act → World → Prop} {w w' : World} {v u r : Value} {t : TypeId} (hgd : o.guard = none) (s x : Operand)
    (ho : o.op = .call { callee := .builtin .append, args := #[s, x], argTypes := #[t, t] }) (hs : a.eval s = v) (hx : a.eval x = u) (hr : ∀ ty, (Builtin.append_ #[t, t] ty #[v, u]).run Try.prog w = .ok r w')
    (h : wpList Try.prog ops Q rest (a.put o.dst r) w') : wpList Try.prog ops Q (o :: rest) a w := by
  refine wpList_plain hgd fun K hK => ?_
  unfold Oper.wp execOp
  simp only [ho, resolve, invoke, builtin, Sem.run_bind, Sem.run_pure, Result.andThen_ok, List.map_toArray, List.map_cons, List.map_nil, hs, hx, hr]
  exact hK _ _ h
/-- Appending to a row of the call's own: what was read is read on. -/
theorem app_keep {w : World} {base bytes n c g cap : Nat} {t e : TypeId} {k : IntKind} {xs : List Int} {y : Int} {ad : Addr} (ht : Try.prog.underlying t = some (.slice e)) (hinfo : (Try.prog.info? e).map (fun i => (i.zero, i.size, i.bytes)) = some (some (.int k 0), 1, bytes))
    (hown : w.ownsRow base e 1 (.slice (some ⟨g, 0, none⟩) n cap) n (nums k xs)) (hc : w.cell? ad = some (.int k y)) (hl : (n + 1) * bytes ≤ 140737488355328) (hn : n + 1 ≤ 9223372036854775807) (hb : base ≤ w.heap.size) :
    ∃ A' c' w', (∀ ty, (Builtin.append_ #[t, t] ty #[.slice (some ⟨g, 0, none⟩) n cap, .slice (some ad) 1 c]).run Try.prog w = .ok (.slice A' (n + 1) c') w') ∧ w'.ownsRow base e 1 (.slice A' (n + 1) c') (n + 1) (nums k (xs ++ [y])) ∧ w.grownBy w' (some g) ∧ ReadsInt w' k (some ⟨g, 0, none⟩) n xs := by
  obtain ⟨A', c', w', hr, ho, hg, hat⟩ := app_one (c := c) ht hinfo hown hc hl hn hb
  refine ⟨A', c', w', hr, ho, hg, ?_⟩
  have hxl : xs.length = n := by have := hown.1; simpa [nums] using this
  obtain ⟨i, hi, hzz⟩ := Option.map_eq_some_iff.1 hinfo
  simp only [Prod.mk.injEq] at hzz
  obtain ⟨hz0, hz1, hz2⟩ := hzz
  have hnews : ∀ j u, ([Value.int k y] : List Value)[j]? = some u → w.cell? (ad.add j) = some u := by
    intro j u hu
    rcases j with _ | j
    · rw [show ad.add 0 = ad from by simp [Addr.add]]; simp at hu; rw [hc, hu]
    · simp at hu
  by_cases hroom : n + 1 ≤ cap
  · obtain ⟨w2, hr2, ho2, -⟩ := run_append_fits (P := Try.prog) w base t 0 e i 1 ht hi hz1 g n cap (nums k xs) hown ad 1 c [.int k y] rfl hnews (by intro u hu; simp at hu; rw [hu]; rfl) hroom
    have h := (hr 0).symm.trans hr2
    injection h with h1 h2
    subst h2
    have e2 : nums k xs ++ [Value.int k y] = nums k (xs ++ [y]) := by simp [nums]
    rw [e2] at ho2
    have hR : ReadsInt w' k (some ⟨g, 0, none⟩) (n + 1) (xs ++ [y]) := reads_own_of ho2 (by rw [List.length_append, hxl]; rfl) rfl
    have h3 := hR.take_ n (by omega)
    rwa [List.take_left' hxl] at h3
  · have hr2 := run_append_grow (P := Try.prog) w t 0 e i (.int k 0) ht hi hz0 ⟨g, 0, none⟩ n cap (nums k xs) (by rw [nums_length, hz1]; omega) (hown.cells (g := g) rfl) ad 1 c [.int k y] (by rw [hz1]; rfl) hnews (by omega) (by omega) (by rw [hz2]; exact growslice_fits (by omega) hl)
    have h := (hr 0).symm.trans hr2
    injection h with h1 h2
    subst h2
    exact ReadsInt.below (reads_own_of hown hxl rfl) ((below_drew (Below.refl _ _)).alloc (Nat.le_refl _) _)
theorem reads_grown {w w' : World} {k : IntKind} {A : Addr} {n gw : Nat} {xs : List Int} (h : ReadsInt w k (some A) n xs) (hg : w.grownBy w' (some gw)) (hne : A.block ≠ gw) : ReadsInt w' k (some A) n xs := by
  refine ⟨h.1, h.2.1, fun hn => ?_⟩
  obtain ⟨ad, e, hc⟩ := h.2.2 hn
  cases e
  refine ⟨A, rfl, fun j hj => ?_⟩
  have h1 := hc j hj
  have hb : (A.add j).block = A.block := by unfold Addr.add; split <;> rfl
  have hlt := World.block_lt_of_cell? w _ h1
  rw [World.cell?_of_block (w := w) (w' := w') (hg.block _ hlt (by rw [hb]; intro he; injection he with he; exact hne he))]
  exact h1

theorem equal_any (xs ys : List Int) (A1 A2 : Option Addr) (n1 c1 n2 c2 : Nat) (w : World) (H1 : ReadsInt w .u8 A1 n1 xs) (H2 : ReadsInt w .u8 A2 n2 ys) (h1 : ∀ x ∈ xs, (Lit.int .u8 x).wf = true) (h2 : ∀ x ∈ ys, (Lit.int .u8 x).wf = true) :
    Calls Try.prog 32 #[.slice A1 n1 c1, .slice A2 n2 c2] w fun e w' => e = .returned (.bool (decide (xs = ys))) ∧ w = w' := by
  have hs1 := string_of_reads (c := c1) Try.underlying41 Try.underlying5 Try.underlying9 H1
  have hs2 := string_of_reads (c := c2) Try.underlying41 Try.underlying5 Try.underlying9 H2
  have he : ((strOfNums xs).toList == (strOfNums ys).toList) = decide (xs = ys) := by
    rw [Bool.eq_iff_iff]; simp only [beq_iff_eq, decide_eq_true_eq]
    exact ⟨fun h => bytes_inj h1 h2 h, fun h => by rw [h]⟩
  have HE := Lib.hid he
  clear H1 H2 h1 h2 he
  go_enter Try.func32, Try.ntmps32
  go_wp2_with fail
  go_ret
  exact ⟨ret_eq (congrArg Value.bool HE.out), rfl⟩
theorem equal_same (xs : List Int) {A1 A2 : Option Addr} {n1 c1 n2 c2 : Nat} (w : World) (H1 : ReadsInt w .u8 A1 n1 xs) (H2 : ReadsInt w .u8 A2 n2 xs) (h1 : ∀ x ∈ xs, (Lit.int .u8 x).wf = true) :
    Calls Try.prog 32 #[.slice A1 n1 c1, .slice A2 n2 c2] w fun e w' => e = .returned (.bool true) ∧ w = w' := by
  have h := equal_any xs xs A1 A2 n1 c1 n2 c2 w H1 H2 h1 h1
  rwa [decide_eq_true rfl] at h
theorem take_at {L : Bool} {K V : List Int} {er : Int} {nk nv : Nat} (b : List Int) {A : Option Addr} {n c : Nat} (w : World) (HR : ReadsInt w .u8 A n b) (hw : ∀ x ∈ b, (Lit.int .u8 x).wf = true) (hc : n ≤ c) (h : takeN b = ⟨er, L, K, V⟩) (hk : K.length = nk) (hv : V.length = nv) :
    Calls Try.prog 35 #[.slice A n c] w fun e w' => ∃ A1 c1 A2 c2, e = .returned (.tuple #[.agg #[.bool L, .slice A1 nk c1, .slice A2 nv c2], .int .i64 er]) ∧
      w'.ownsRow w.heap.size 25 1 (.slice A1 nk c1) nk (nums .u64 K) ∧ w'.ownsRow w.heap.size 25 1 (.slice A2 nv c2) nv (nums .u64 V) ∧ (∀ p, (Value.slice A1 nk c1).ownBlock = some p → (Value.slice A2 nv c2).ownBlock ≠ some p) ∧ Below w.heap.size w w' := by
  subst hk; subst hv
  have hh := take_any b A n c w HR hw hc
  rw [h] at hh
  exact hh
theorem rtake_at {L : Bool} {K V : List Int} {er : Int} {nk nv : Nat} (b : List Int) {A : Option Addr} {n c : Nat} (w : World) (HR : ReadsInt w .u8 A n b) (hw : ∀ x ∈ b, (Lit.int .u8 x).wf = true) (hc : n ≤ c) (h : takeN b = ⟨er, L, K, V⟩) (hk : K.length = nk) (hv : V.length = nv) :
    Calls Try.prog 36 #[.slice A n c] w fun e w' => ∃ A1 c1 A2 c2, e = .returned (.tuple #[.agg #[.bool L, .slice A1 nk c1, .slice A2 nv c2], .int .i64 er]) ∧
      w'.ownsRow w.heap.size 25 1 (.slice A1 nk c1) nk (nums .u64 K) ∧ w'.ownsRow w.heap.size 25 1 (.slice A2 nv c2) nv (nums .u64 V) ∧ (∀ p, (Value.slice A1 nk c1).ownBlock = some p → (Value.slice A2 nv c2).ownBlock ≠ some p) ∧ Below w.heap.size w w' := by
  subst hk; subst hv
  have hh := rtake_any b A n c w HR hw hc
  rw [h] at hh
  exact hh
theorem put_at {N : Nat} {F : List Int} (L : Bool) {K V : List Int} {ak av : Option Addr} {nk ck nv cv : Nat} (w : World) (HK : ReadsInt w .u64 ak nk K) (HV : ReadsInt w .u64 av nv V) (hm : mayN K V = true) (hN : 2 + 16 * nk = N) (hF : formN L K V = F) :
    Calls Try.prog 29 #[.agg #[.bool L, .slice ak nk ck, .slice av nv cv]] w fun e w' => ∃ A' c', e = .returned (.tuple #[.slice A' N c', .int .i64 0]) ∧ w'.ownsRow w.heap.size 5 1 (.slice A' N c') N (nums .u8 F) ∧ Below w.heap.size w w' := by
  subst hN; subst hF; exact put_ok L K V ak av nk ck nv cv w HK HV hm
theorem rput_at {N : Nat} {F : List Int} (L : Bool) {K V : List Int} {ak av : Option Addr} {nk ck nv cv : Nat} (w : World) (HK : ReadsInt w .u64 ak nk K) (HV : ReadsInt w .u64 av nv V) (hwk : ∀ x ∈ K, (Lit.int .u64 x).wf = true) (hwv : ∀ x ∈ V, (Lit.int .u64 x).wf = true) (hm : mayN K V = true) (hN : 2 + 16 * nk = N) (hF : formN L K V = F) :
    Calls Try.prog 30 #[.agg #[.bool L, .slice ak nk ck, .slice av nv cv]] w fun e w' => ∃ A' c', e = .returned (.tuple #[.slice A' N c', .int .i64 0]) ∧ w'.ownsRow w.heap.size 5 1 (.slice A' N c') N (nums .u8 F) ∧ Below w.heap.size w w' := by
  subst hN; subst hF; exact rput_ok L K V ak av nk ck nv cv w HK HV hwk hwv hm
theorem same_at {b : Bool} {L L' : Bool} {K V K' V' : List Int} {ak av ak' av' : Option Addr} {nk ck nv cv nk' ck' nv' cv' : Nat} (w : World) (HK : ReadsInt w .u64 ak nk K) (HV : ReadsInt w .u64 av nv V) (HK' : ReadsInt w .u64 ak' nk' K') (HV' : ReadsInt w .u64 av' nv' V') (h : sameN L L' K V K' V' = b) :
    Calls Try.prog 37 #[.agg #[.bool L, .slice ak nk ck, .slice av nv cv], .agg #[.bool L', .slice ak' nk' ck', .slice av' nv' cv']] w fun e w' => e = .returned (.bool b) ∧ Below w.heap.size w w' := by
  subst h; exact same_any L L' K V K' V' ak av ak' av' nk ck nv cv nk' ck' nv' cv' w HK HV HK' HV'
theorem rsame_at {b : Bool} {L L' : Bool} {K V K' V' : List Int} {ak av ak' av' : Option Addr} {nk ck nv cv nk' ck' nv' cv' : Nat} (w : World) (HK : ReadsInt w .u64 ak nk K) (HV : ReadsInt w .u64 av nv V) (HK' : ReadsInt w .u64 ak' nk' K') (HV' : ReadsInt w .u64 av' nv' V') (h : sameN L L' K V K' V' = b) :
    Calls Try.prog 26 #[.agg #[.bool L, .slice ak nk ck, .slice av nv cv], .agg #[.bool L', .slice ak' nk' ck', .slice av' nv' cv']] w fun e w' => e = .returned (.bool b) ∧ Below w.heap.size w w' := by
  subst h; exact rsame_any L L' K V K' V' ak av ak' av' nk ck nv cv nk' ck' nv' cv' w HK HV HK' HV'
theorem same_refl (L : Bool) (K V : List Int) : sameN L L K V K V = true := by simp [sameN]

def F57 : List Int := [1, 1, 0, 0, 0, 0, 0, 0, 0, 5, 0, 0, 0, 0, 0, 0, 0, 7]
theorem F57_form : formN true [5] [7] = F57 := by decide +kernel
theorem F57_wf : ∀ x ∈ F57, (Lit.int .u8 x).wf = true := by decide +kernel
theorem F57_wf0 : ∀ x ∈ F57 ++ [0], (Lit.int .u8 x).wf = true := by decide +kernel
theorem F57_wf1 : ∀ x ∈ F57 ++ [1], (Lit.int .u8 x).wf = true := by decide +kernel
theorem F57_take0 : takeN (F57 ++ [0]) = ⟨0, true, [5], [7]⟩ := by kernel_rfl
theorem F57_take1 : takeN (F57 ++ [1]) = ⟨5, false, [], []⟩ := by kernel_rfl
theorem F57_may : mayN [5] [7] = true := by decide +kernel
end Go.Proofs.Ytdekplalhfpooaa.Nod
