/- Nodes: examples: the walk. -/
import Derived.BigQuiet
import Derived.Lib.AppendZerosOnto
import Derived.Test.YtdekplalhfpooaaInv
import Derived.Test.YtdekplalhfpooaaNodK
set_option linter.unusedVariables false
set_option linter.unusedSimpArgs false
namespace Go.Proofs.Ytdekplalhfpooaa.Nod
open Go Go.RowKit Go.Proofs.YtdekplalhfpooaaW.PrintWords Go.Proofs.YtdekplalhfpooaaW.PrintLast Go.Proofs.YtdekplalhfpooaaW.PrintMore Base Odr Hlp Go.Proofs.Ytdekplalhfpooaa.Inv

theorem St_keep_new' {W W' : World} {row : Option Nat} (hg : W.grownBy W' row) {n g : Nat} {o : Obj} (hr : ∀ p, row = some p → p < n) (hn : n ≤ g) (ho : W.heap[g]? = some o) : W'.heap[g]? = some o := by
  rw [hg.block g (Array.getElem?_eq_some_iff.1 ho).1 (fun h => by have := hr g h.symm; omega)]; exact ho
theorem may_b {b : Bool} (L : Bool) (K V : List Int) (ak av : Option Addr) (nk ck nv cv : Nat) (w : World) (HK : ReadsInt w .u64 ak nk K) (HV : ReadsInt w .u64 av nv V) (h : mayN K V = b) :
    Calls Try.prog 33 #[.agg #[.bool L, .slice ak nk ck, .slice av nv cv]] w fun e w' => e = .returned (.bool b) ∧ Below w.heap.size w w' := by
  subst h; exact may_any L K V ak av nk ck nv cv w HK HV
theorem reads0 (w : World) : ReadsInt w .u64 none 0 [] := ⟨rfl, by omega, fun h => absurd h (Nat.lt_irrefl 0)⟩
theorem rows64 {w : World} {g : Nat} {xs : List Int} (h : w.heap[g]? = some (.cells (nums .u64 xs).toArray 25)) (hl : xs.length ≤ 100) : ReadsInt w .u64 (some ⟨g, 0, none⟩) xs.length xs := row_reads h (by omega)
theorem below_then' {a b c : World} (h : Below a.heap.size a b) (h2 : Below b.heap.size b c) : Below a.heap.size a c := below_then h h.size h2
/-- Bytes in a slot: a slice that is full; a slice; a struct of a slice and an error. -/
inductive KD | full | any | st (e : Int)
def Sp1 (n : Nat) (xs : List Int) (k : KD) (W : World) (u : Value) : Prop := match k with
  | .full => ∃ A, u = .slice A n n ∧ ReadsInt W .u8 A n xs
  | .any => ∃ A c, u = .slice A n c ∧ n ≤ c ∧ ReadsInt W .u8 A n xs
  | .st e => ∃ A c, u = .agg #[.slice A n c, .int .i64 e] ∧ n ≤ c ∧ ReadsInt W .u8 A n xs
def Sp (s : Option (Nat × List Int × KD)) (W : World) (u : Value) : Prop := match s with
  | none => True
  | some (n, xs, k) => Sp1 n xs k W u
theorem Sp.below {s : Option (Nat × List Int × KD)} {W W' : World} {u : Value} (h : Sp s W u) (hb : Below W.heap.size W W') : Sp s W' u := by
  cases s with
  | none => trivial
  | some p =>
    obtain ⟨n, xs, k⟩ := p
    cases k with
    | full => obtain ⟨A, e, r⟩ := h; exact ⟨A, e, r.below hb⟩
    | any => obtain ⟨A, c, e, hc, r⟩ := h; exact ⟨A, c, e, hc, r.below hb⟩
    | st e => obtain ⟨A, c, e, hc, r⟩ := h; exact ⟨A, c, e, hc, r.below hb⟩
def IvN (SP : Nat → Option (Nat × List Int × KD)) (w : World) (sel : Nat → Bool) (v : Nat → Value) (W : World) : Prop := Below w.heap.size w W ∧ ∀ i, sel i = true → Sp (SP i) W (v i)
theorem IvN.step {SP : Nat → Option (Nat × List Int × KD)} {w W W' : World} {sel : Nat → Bool} {v : Nat → Value} (h : IvN SP w sel v W) (i : Nat) {u : Value} (hb : Below W.heap.size W W') (hu : Sp (SP i) W' u) : IvN SP w (upd sel i true) (upd v i u) W' := by
  refine ⟨below_then h.1 h.1.size hb, fun j hj => ?_⟩
  by_cases hji : j = i
  · subst hji; rw [upd_same]; exact hu
  · rw [upd_ne _ _ hji] at hj ⊢; exact (h.2 j hj).below hb
theorem row_n {W : World} {o : Obj} : Below W.heap.size W (W.alloc o) := (Below.refl _ _).alloc (Nat.le_refl _) _
theorem full_new {W : World} (n : Nat) (xs : List Int) (hn : xs.length = n) (h9 : n ≤ 100) : Sp1 n xs .full (W.alloc (.cells (nums .u8 xs).toArray 5)) (.slice (some ⟨W.heap.size, 0, none⟩) n n) := by
  subst hn
  exact ⟨_, rfl, row_reads (heap_alloc_new W _) (by omega)⟩
theorem rcells8 {W : World} {ad : Addr} {m : Nat} {ys : List Int} (HR : ReadsInt W .u8 (some ad) m ys) : ∀ (j : Nat) (u : Value), (nums .u8 ys)[j]? = some u → W.cell? (ad.add j) = some u := by
  intro j u hu
  have hj : j < ys.length := by
    rcases Nat.lt_or_ge j ys.length with h | h
    · exact h
    · simp [nums, List.getElem?_eq_none h] at hu
  obtain ⟨ad', h', hc⟩ := HR.2.2 (by have := HR.1; omega)
  injection h' with h'
  subst h'
  have := hc j (by have := HR.1; omega)
  simp [nums, List.getElem?_eq_getElem hj] at hu
  subst hu
  rw [this]
  simp [List.getD_eq_getElem?_getD, List.getElem?_eq_getElem hj]
theorem nums_one8 (ys : List Int) : ∀ u ∈ nums .u8 ys, u.oneCell' = true := by
  intro u hu
  simp only [nums, List.mem_map] at hu
  obtain ⟨q, _, rfl⟩ := hu
  rfl
theorem info8x : ∃ i, Try.prog.info? 5 = some i ∧ i.zero = some (.int .u8 0) ∧ i.size = 1 ∧ i.bytes = 1 := by
  obtain ⟨i, hi, hzz⟩ := Option.map_eq_some_iff.1 info8
  simp only [Prod.mk.injEq] at hzz
  exact ⟨i, hi, hzz⟩
theorem some_of {W : World} {A : Option Addr} {n : Nat} {xs : List Int} (h : ReadsInt W .u8 A n xs) (hn : 0 < n) : ∃ ad, A = some ad := by
  obtain ⟨ad, e, _⟩ := h.2.2 hn; exact ⟨ad, e⟩
/-- Bytes behind a full row: a new row. -/
theorem app8 {W : World} {A B : Option Addr} {n m c : Nat} {xs ys : List Int} (hA : ReadsInt W .u8 A n xs) (hB : ReadsInt W .u8 B m ys) (hn : 0 < n) (hm : 0 < m) (h9 : n + m ≤ 100) :
    ∃ u W', (∀ ty, (Builtin.append_ #[41, 41] ty #[.slice A n n, .slice B m c]).run Try.prog W = .ok u W') ∧ Below W.heap.size W W' ∧ Sp1 (n + m) (xs ++ ys) .any W' u := by
  obtain ⟨i, hi, hz0, hz1, hz2⟩ := info8x
  obtain ⟨ad, rfl⟩ := some_of hA hn
  obtain ⟨bd, rfl⟩ := some_of hB hm
  obtain ⟨v2, W3, r3, o3, g3⟩ := run_append_arg_grows (P := Try.prog) W 41 0 5 i (.int .u8 0) 1 1 Try.underlying41 hi hz0 hz1 hz2 rfl (by omega) ad n n (nums .u8 xs) (by rw [nums_length, hA.1, Nat.mul_one]) (rcells8 hA) bd m c (nums .u8 ys) (by rw [nums_length, hB.1, Nat.mul_one]) (rcells8 hB) (by omega) (by simp only [maxLen]; omega) (by omega)
  obtain ⟨A2, c2, rfl⟩ := own_slice o3
  rw [← nums_append] at o3
  refine ⟨_, W3, fun ty => r3, pw_below_grown (Below.refl _ _) _ (Nat.le_refl _) g3 (fun k hk => by cases hk), A2, c2, rfl, own_cap o3, ?_⟩
  have hl : (xs ++ ys).length = n + m := by rw [List.length_append, hA.1, hB.1]
  rw [← hl] at o3 ⊢
  exact reads_own o3
theorem app8z {W : World} {A : Option Addr} {n m : Nat} {xs : List Int} (hA : ReadsInt W .u8 A n xs) (hn : 0 < n) (hm : 0 < m) (h9 : n + m ≤ 100) :
    ∃ u W', (∀ ty, (Builtin.append_ #[41, 3] ty #[.slice A n n, .int .i64 (m : Int)]).run Try.prog W = .ok u W') ∧ Below W.heap.size W W' ∧ Sp1 (n + m) (xs ++ List.replicate m 0) .any W' u := by
  obtain ⟨i, hi, hz0, hz1, hz2⟩ := info8x
  obtain ⟨ad, rfl⟩ := some_of hA hn
  have hl := hA.1
  have hold : (Builtin.firstCells i.size n (.slice (some ad) n n)).run Try.prog W.drew = .ok (nums .u8 xs).toArray W.drew := by
    rw [hz1]
    exact run_firstCells_some W.drew 1 n ad n n _ (by rw [nums_length, hA.1, Nat.mul_one]) (rcells8 (W := W.drew) hA)
  have hr := fun ty => Lib.run_append_grow_zeros (P := Try.prog) W 41 3 ty 5 i _ .i64 .i64 Try.underlying41 Try.underlying3 hi hz0 (some ad) n n _ hold m hm (by omega) (by omega) (by omega) (by rw [hz2]; omega) (by rw [hz2]; exact growslice_fits (by omega) (by omega))
  have hG := grownCap_ge W (n + m) n 5
  have hGm := grownCap_le_maxLen W (n + m) n 5 (by unfold maxLen; omega)
  obtain ⟨G, hGe⟩ : ∃ G, grownCap W (n + m) n 5 = G := ⟨_, rfl⟩
  rw [hGe] at hr hG hGm
  have ho : (W.drew.alloc (.cells ((nums .u8 xs).toArray ++ Builtin.zeroCells (Value.int .u8 0).cells m ++ Builtin.zeroCells (Value.int .u8 0).cells (G - (n + m))) 5)).ownsRow W.heap.size 5 1 (.slice (some ⟨W.heap.size, 0, none⟩) (xs ++ List.replicate m 0).length G) (xs ++ List.replicate m 0).length (nums .u8 (xs ++ List.replicate m 0)) := by
    have hlen : (xs ++ List.replicate m 0).length = n + m := by rw [List.length_append, List.length_replicate, hl]
    refine ⟨by rw [nums_length, Nat.mul_one], .inr ⟨W.heap.size, G, _, rfl, Nat.le_refl _, heap_alloc_new W.drew _, by omega, hGm, ?_, ?_⟩⟩
    · simp [Builtin.zeroCells, Value.cells, nums_length, hl]; omega
    · have hz : (Builtin.zeroCells (Value.int .u8 0).cells m).toList = nums .u8 (List.replicate m 0) := by
        have h1 : ∀ i : Nat, (#[Value.int .u8 0] : Array Value)[i % 1]! = .int .u8 0 := fun i => by rw [Nat.mod_one]; rfl
        show ((Array.range (m * 1)).map fun i => (#[Value.int .u8 0] : Array Value)[i % 1]!).toList = _
        simp only [h1]
        simp [nums, List.map_const']
      rw [hlen, Nat.mul_one, Array.toList_append, Array.toList_append, List.toList_toArray, hz, ← nums_append, List.take_append_of_le_length (by rw [nums_length, hlen]; exact Nat.le_refl _), List.take_of_length_le (by rw [nums_length, hlen]; exact Nat.le_refl _)]
  have hlen : (xs ++ List.replicate m 0).length = n + m := by rw [List.length_append, List.length_replicate, hl]
  refine ⟨_, _, hr, (below_drew (Below.refl _ _)).alloc (Nat.le_refl _) _, _, G, rfl, hG, ?_⟩
  have h := reads_own ho
  rw [hlen] at h
  exact h
theorem exec_app2 {t t' : TypeId} {ev : Operand → Value} {o : Oper} {w w' : World} {v u r : Value} (s x : Operand) (ho : o.op = .call { callee := .builtin .append, args := #[s, x], argTypes := #[t, t'] }) (hs : ev s = v) (hx : ev x = u)
    (hr : ∀ ty, (Builtin.append_ #[t, t'] ty #[v, u]).run Try.prog w = .ok r w') : (execOp ev o).run Try.prog w = .ok (.value r) w' := by
  unfold execOp
  simp only [ho, resolve, invoke, builtin, Sem.run_bind, Sem.run_pure, Result.andThen_ok, List.map_toArray, List.map_cons, List.map_nil, hs, hx, hr]
def KB (D : List (Option Addr × Nat × List Int)) (W : World) : Prop := ∀ r ∈ D, ReadsInt W .u8 r.1 r.2.1 r.2.2
theorem KB.nil {W : World} : KB [] W := fun _ h => absurd h List.not_mem_nil
theorem KB.cons {D : List (Option Addr × Nat × List Int)} {W : World} {A : Option Addr} {n : Nat} {xs : List Int} (h : ReadsInt W .u8 A n xs) (hd : KB D W) : KB ((A, n, xs) :: D) W := by
  intro r hr
  rcases List.mem_cons.1 hr with rfl | hr
  · exact h
  · exact hd r hr
theorem KB.below {D : List (Option Addr × Nat × List Int)} {W W' : World} (h : KB D W) (hb : Below W.heap.size W W') : KB D W' := fun r hr => (h r hr).below hb
theorem KB.rd {D : List (Option Addr × Nat × List Int)} {W : World} (h : KB D W) (i : Nat) {A : Option Addr} {n : Nat} {xs : List Int} (hi : D[i]? = some (A, n, xs)) : ReadsInt W .u8 A n xs := h _ (List.mem_of_getElem? hi)
def T18 : List Int := [0, 2, 0, 0, 0, 0, 0, 0, 0, 1, 0, 0, 0, 0, 0, 0, 0, 1]
def T8 : List Int := [0, 0, 0, 0, 0, 0, 0, 1]
def keysN (j : Nat) : List Int := (List.range j).map fun i : Nat => (i : Int)
theorem keysN_succ (j : Nat) : keysN (j + 1) = keysN j ++ [(j : Int)] := by unfold keysN; rw [List.range_succ, List.map_append]; rfl
def SPT : Nat → Option (Nat × List Int × KD)
  | 1 => some (1, [2], .full)
  | 2 => some (1, [2], .st 5)
  | 3 => some (1, [1], .full)
  | 4 => some (1, [1], .st 4)
  | 5 => some (2, [1, 0], .full)
  | 6 => some (2, [1, 0], .st 5)
  | 7 => some (2, [1, 9], .full)
  | 8 => some (2, [1, 9], .st 5)
  | 9 => some (2, [1, 1], .full)
  | 10 => some (2, [1, 1], .st 4)
  | 11 => some (18, List.replicate 18 0, .full)
  | 12 => some (18, List.replicate 18 0, .st 5)
  | 13 => some (2, [0, 1], .full)
  | 14 => some (18, [0, 1] ++ List.replicate 16 0, .any)
  | 15 => some (18, [0, 1] ++ List.replicate 16 0, .st 5)
  | 16 => some (18, T18, .full)
  | 17 => some (8, T8, .full)
  | 18 => some (26, T18 ++ T8, .any)
  | 19 => some (26, T18 ++ T8, .st 5)
  | _ => none
set_option maxRecDepth 100000 in
set_option maxHeartbeats 6400000 in
theorem known_walk (w : World) : Calls Try.prog 10 #[] w fun e w' => e = .returned (.bool true) ∧ Below w.heap.size w w' := by
  have m18 : ∀ W : World, (Instr.makeSlice 41 (.int .i64 18) (.int .i64 18)).run Try.prog W = .ok (.slice (some ⟨W.heap.size, 0, none⟩) 18 18) (W.alloc (.cells (madeCells #[.int .u8 0] 18) 5)) := made8 18 (by omega)
  go_enter Try.func10, Try.ntmps10
  go_wp2_with fail
  refine start_ (n := 23) (S := fun w' => True) (ds := [20]) #[false, false, false, false, false, false, false, false, false, false, false, false, false, false, false, false, false, false, false, false, false, false, false] (by kernel_rfl) rfl rfl trivial (fun hHeld => ?_)
  refine pure_ (i := 0) (N := some 8) (v := ?_) (a' := ?_) #[true, false, false, false, false, false, false, false, false, false, false, false, false, false, false, false, false, false, false, false, false, false, false] rfl rfl (by kernel_rfl) (fun _ _ _ h => h) (Or.inl ⟨by rfl, ?_⟩) ?_ ?_
  rotate_left
  · intro w'
    go_simp
    with_reducible rfl
  rotate_left
  · simp only [Act.put, List.setIfInBounds_toArray, List.set_cons_zero, List.set_cons_succ, i64_w, i32_w]
    rfl
  refine pure_ (i := 22) (N := some 30) (v := ?_) (a' := ?_) #[true, false, false, false, false, false, false, false, false, false, false, false, false, false, false, false, false, false, false, false, false, false, true] rfl rfl (by kernel_rfl) (fun _ _ _ h => h) (Or.inl ⟨by rfl, ?_⟩) ?_ ?_
  rotate_left
  · intro w'
    go_simp
    with_reducible rfl
  rotate_left
  · simp only [Act.put, List.setIfInBounds_toArray, List.set_cons_zero, List.set_cons_succ, i64_w, i32_w]
    rfl
  refine inv_ (fuel' := 2) #[true, true, true, true, true, true, true, true, true, true, true, true, true, true, true, true, true, true, true, true, false, false, true] [(1, 9, []), (2, 10, [1]), (3, 11, []), (4, 12, [3]), (5, 13, []), (6, 14, [5]), (7, 15, []), (8, 16, [7]), (9, 17, []), (10, 18, [9]), (11, 19, []), (12, 20, [11]), (13, 21, []), (14, 22, [13]), (15, 23, [14]), (16, 24, []), (17, 25, []), (18, 26, [14, 16, 17]), (19, 27, [18])] (fun sel v W => IvN SPT w sel v W) (by kernel_rfl) (fun _ _ _ _ _ => Iff.rfl) (fun _ _ _ _ => trivial) (⟨below_drew (Below.refl _ _), fun _ h => (Bool.false_ne_true h).elim⟩) ?_ ?_ (by rfl)
  · refine steps_cons rfl ?_ (steps_cons rfl ?_ (steps_cons rfl ?_ (steps_cons rfl ?_ (steps_cons rfl ?_ (steps_cons rfl ?_ (steps_cons rfl ?_ (steps_cons rfl ?_ (steps_cons rfl ?_ (steps_cons rfl ?_ (steps_cons rfl ?_ (steps_cons rfl ?_ (steps_cons rfl ?_ (steps_cons rfl ?_ (steps_cons rfl ?_ (steps_cons rfl ?_ (steps_cons rfl ?_ (steps_cons rfl ?_ (steps_cons rfl ?_ (steps_nil)))))))))))))))))))
    · intro sel v W hI hs hd
      intro a1 ha1 K hK
      simp (decide := true) only [foldA, if_true, if_false, ite_true, ite_false, Act.put, List.setIfInBounds_toArray, List.set_cons_zero, List.set_cons_succ] at ha1
      subst ha1
      refine value_ (w1 := ?_) (v := ?_) (by rfl) rfl ?_ ?_
      rotate_left 2
      · go_simp
        constructor
        · rfl
        · rfl
      exact hK.out _ _ (hI.step 1 row_n (full_new 1 [2] rfl (by omega)))
    · intro sel v W hI hs hd
      simp only [List.all_cons, List.all_nil, Bool.and_true, Bool.and_eq_true] at hd
      obtain ⟨A, q, r⟩ := hI.2 1 hd
      intro a1 ha1 K hK
      simp (decide := true) only [foldA, if_true, if_false, ite_true, ite_false, Act.put, List.setIfInBounds_toArray, List.set_cons_zero, List.set_cons_succ, q] at ha1
      subst ha1
      refine value_ (w1 := ?_) (v := ?_) (by rfl) rfl ?_ ?_
      rotate_left 2
      · go_simp
        constructor
        · rfl
        · rfl
      exact hK.out _ _ (hI.step 2 (Below.refl _ _) ⟨A, 1, rfl, Nat.le_refl _, r⟩)
    · intro sel v W hI hs hd
      intro a1 ha1 K hK
      simp (decide := true) only [foldA, if_true, if_false, ite_true, ite_false, Act.put, List.setIfInBounds_toArray, List.set_cons_zero, List.set_cons_succ] at ha1
      subst ha1
      refine value_ (w1 := ?_) (v := ?_) (by rfl) rfl ?_ ?_
      rotate_left 2
      · go_simp
        constructor
        · rfl
        · rfl
      exact hK.out _ _ (hI.step 3 row_n (full_new 1 [1] rfl (by omega)))
    · intro sel v W hI hs hd
      simp only [List.all_cons, List.all_nil, Bool.and_true, Bool.and_eq_true] at hd
      obtain ⟨A, q, r⟩ := hI.2 3 hd
      intro a1 ha1 K hK
      simp (decide := true) only [foldA, if_true, if_false, ite_true, ite_false, Act.put, List.setIfInBounds_toArray, List.set_cons_zero, List.set_cons_succ, q] at ha1
      subst ha1
      refine value_ (w1 := ?_) (v := ?_) (by rfl) rfl ?_ ?_
      rotate_left 2
      · go_simp
        constructor
        · rfl
        · rfl
      exact hK.out _ _ (hI.step 4 (Below.refl _ _) ⟨A, 1, rfl, Nat.le_refl _, r⟩)
    · intro sel v W hI hs hd
      intro a1 ha1 K hK
      simp (decide := true) only [foldA, if_true, if_false, ite_true, ite_false, Act.put, List.setIfInBounds_toArray, List.set_cons_zero, List.set_cons_succ] at ha1
      subst ha1
      refine value_ (w1 := ?_) (v := ?_) (by rfl) rfl ?_ ?_
      rotate_left 2
      · go_simp
        constructor
        · rfl
        · rfl
      exact hK.out _ _ (hI.step 5 row_n (full_new 2 [1, 0] rfl (by omega)))
    · intro sel v W hI hs hd
      simp only [List.all_cons, List.all_nil, Bool.and_true, Bool.and_eq_true] at hd
      obtain ⟨A, q, r⟩ := hI.2 5 hd
      intro a1 ha1 K hK
      simp (decide := true) only [foldA, if_true, if_false, ite_true, ite_false, Act.put, List.setIfInBounds_toArray, List.set_cons_zero, List.set_cons_succ, q] at ha1
      subst ha1
      refine value_ (w1 := ?_) (v := ?_) (by rfl) rfl ?_ ?_
      rotate_left 2
      · go_simp
        constructor
        · rfl
        · rfl
      exact hK.out _ _ (hI.step 6 (Below.refl _ _) ⟨A, 2, rfl, Nat.le_refl _, r⟩)
    · intro sel v W hI hs hd
      intro a1 ha1 K hK
      simp (decide := true) only [foldA, if_true, if_false, ite_true, ite_false, Act.put, List.setIfInBounds_toArray, List.set_cons_zero, List.set_cons_succ] at ha1
      subst ha1
      refine value_ (w1 := ?_) (v := ?_) (by rfl) rfl ?_ ?_
      rotate_left 2
      · go_simp
        constructor
        · rfl
        · rfl
      exact hK.out _ _ (hI.step 7 row_n (full_new 2 [1, 9] rfl (by omega)))
    · intro sel v W hI hs hd
      simp only [List.all_cons, List.all_nil, Bool.and_true, Bool.and_eq_true] at hd
      obtain ⟨A, q, r⟩ := hI.2 7 hd
      intro a1 ha1 K hK
      simp (decide := true) only [foldA, if_true, if_false, ite_true, ite_false, Act.put, List.setIfInBounds_toArray, List.set_cons_zero, List.set_cons_succ, q] at ha1
      subst ha1
      refine value_ (w1 := ?_) (v := ?_) (by rfl) rfl ?_ ?_
      rotate_left 2
      · go_simp
        constructor
        · rfl
        · rfl
      exact hK.out _ _ (hI.step 8 (Below.refl _ _) ⟨A, 2, rfl, Nat.le_refl _, r⟩)
    · intro sel v W hI hs hd
      intro a1 ha1 K hK
      simp (decide := true) only [foldA, if_true, if_false, ite_true, ite_false, Act.put, List.setIfInBounds_toArray, List.set_cons_zero, List.set_cons_succ] at ha1
      subst ha1
      refine value_ (w1 := ?_) (v := ?_) (by rfl) rfl ?_ ?_
      rotate_left 2
      · go_simp
        constructor
        · rfl
        · rfl
      exact hK.out _ _ (hI.step 9 row_n (full_new 2 [1, 1] rfl (by omega)))
    · intro sel v W hI hs hd
      simp only [List.all_cons, List.all_nil, Bool.and_true, Bool.and_eq_true] at hd
      obtain ⟨A, q, r⟩ := hI.2 9 hd
      intro a1 ha1 K hK
      simp (decide := true) only [foldA, if_true, if_false, ite_true, ite_false, Act.put, List.setIfInBounds_toArray, List.set_cons_zero, List.set_cons_succ, q] at ha1
      subst ha1
      refine value_ (w1 := ?_) (v := ?_) (by rfl) rfl ?_ ?_
      rotate_left 2
      · go_simp
        constructor
        · rfl
        · rfl
      exact hK.out _ _ (hI.step 10 (Below.refl _ _) ⟨A, 2, rfl, Nat.le_refl _, r⟩)
    · intro sel v W hI hs hd
      intro a1 ha1 K hK
      simp (decide := true) only [foldA, if_true, if_false, ite_true, ite_false, Act.put, List.setIfInBounds_toArray, List.set_cons_zero, List.set_cons_succ] at ha1
      subst ha1
      refine value_ (w1 := ?_) (v := ?_) (by rfl) rfl ?_ ?_
      rotate_left 2
      · go_simp
        constructor
        · rfl
        · rfl
      exact hK.out _ _ (hI.step 11 row_n ⟨_, rfl, reads_own (own_made W 0 5 .u8 18 (Nat.zero_le _) (by omega))⟩)
    · intro sel v W hI hs hd
      simp only [List.all_cons, List.all_nil, Bool.and_true, Bool.and_eq_true] at hd
      obtain ⟨A, q, r⟩ := hI.2 11 hd
      intro a1 ha1 K hK
      simp (decide := true) only [foldA, if_true, if_false, ite_true, ite_false, Act.put, List.setIfInBounds_toArray, List.set_cons_zero, List.set_cons_succ, q] at ha1
      subst ha1
      refine value_ (w1 := ?_) (v := ?_) (by rfl) rfl ?_ ?_
      rotate_left 2
      · go_simp
        constructor
        · rfl
        · rfl
      exact hK.out _ _ (hI.step 12 (Below.refl _ _) ⟨A, 18, rfl, Nat.le_refl _, r⟩)
    · intro sel v W hI hs hd
      intro a1 ha1 K hK
      simp (decide := true) only [foldA, if_true, if_false, ite_true, ite_false, Act.put, List.setIfInBounds_toArray, List.set_cons_zero, List.set_cons_succ] at ha1
      subst ha1
      refine value_ (w1 := ?_) (v := ?_) (by rfl) rfl ?_ ?_
      rotate_left 2
      · go_simp
        constructor
        · rfl
        · rfl
      exact hK.out _ _ (hI.step 13 row_n (full_new 2 [0, 1] rfl (by omega)))
    · intro sel v W hI hs hd
      simp only [List.all_cons, List.all_nil, Bool.and_true, Bool.and_eq_true] at hd
      obtain ⟨A, q, r⟩ := hI.2 13 hd
      intro a1 ha1 K hK
      simp (decide := true) only [foldA, if_true, if_false, ite_true, ite_false, Act.put, List.setIfInBounds_toArray, List.set_cons_zero, List.set_cons_succ, q] at ha1
      subst ha1
      obtain ⟨u, W2, hr, hb, hu⟩ := app8z (m := 16) r (by omega) (by omega) (by omega)
      refine value_ (w1 := W2) (v := u) (by rfl) rfl (exec_app2 (.tmp 21) (.const (.int .i64 16)) ?_ ?_ ?_ hr) ?_
      · rfl
      · rfl
      · rfl
      exact hK.out _ _ (hI.step 14 hb hu)
    · intro sel v W hI hs hd
      simp only [List.all_cons, List.all_nil, Bool.and_true, Bool.and_eq_true] at hd
      obtain ⟨A, c, q, hc, r⟩ := hI.2 14 hd
      intro a1 ha1 K hK
      simp (decide := true) only [foldA, if_true, if_false, ite_true, ite_false, Act.put, List.setIfInBounds_toArray, List.set_cons_zero, List.set_cons_succ, q] at ha1
      subst ha1
      refine value_ (w1 := ?_) (v := ?_) (by rfl) rfl ?_ ?_
      rotate_left 2
      · go_simp
        constructor
        · rfl
        · rfl
      exact hK.out _ _ (hI.step 15 (Below.refl _ _) ⟨A, c, rfl, hc, r⟩)
    · intro sel v W hI hs hd
      intro a1 ha1 K hK
      simp (decide := true) only [foldA, if_true, if_false, ite_true, ite_false, Act.put, List.setIfInBounds_toArray, List.set_cons_zero, List.set_cons_succ] at ha1
      subst ha1
      refine value_ (w1 := ?_) (v := ?_) (by rfl) rfl ?_ ?_
      rotate_left 2
      · go_simp
        constructor
        · rfl
        · rfl
      exact hK.out _ _ (hI.step 16 row_n (full_new 18 T18 rfl (by omega)))
    · intro sel v W hI hs hd
      intro a1 ha1 K hK
      simp (decide := true) only [foldA, if_true, if_false, ite_true, ite_false, Act.put, List.setIfInBounds_toArray, List.set_cons_zero, List.set_cons_succ] at ha1
      subst ha1
      refine value_ (w1 := ?_) (v := ?_) (by rfl) rfl ?_ ?_
      rotate_left 2
      · go_simp
        constructor
        · rfl
        · rfl
      exact hK.out _ _ (hI.step 17 row_n (full_new 8 T8 rfl (by omega)))
    · intro sel v W hI hs hd
      simp only [List.all_cons, List.all_nil, Bool.and_true, Bool.and_eq_true] at hd
      obtain ⟨A, q, r⟩ := hI.2 16 hd.2.1
      obtain ⟨A', q2, r2⟩ := hI.2 17 hd.2.2
      intro a1 ha1 K hK
      simp (decide := true) only [foldA, if_true, if_false, ite_true, ite_false, Act.put, List.setIfInBounds_toArray, List.set_cons_zero, List.set_cons_succ, q, q2] at ha1
      subst ha1
      obtain ⟨u, W2, hr, hb, hu⟩ := app8 (c := 8) r r2 (by omega) (by omega) (by omega)
      refine value_ (w1 := W2) (v := u) (by rfl) rfl (exec_app2 (.tmp 24) (.tmp 25) ?_ ?_ ?_ hr) ?_
      · rfl
      · rfl
      · rfl
      exact hK.out _ _ (hI.step 18 hb hu)
    · intro sel v W hI hs hd
      simp only [List.all_cons, List.all_nil, Bool.and_true, Bool.and_eq_true] at hd
      obtain ⟨A, c, q, hc, r⟩ := hI.2 18 hd
      intro a1 ha1 K hK
      simp (decide := true) only [foldA, if_true, if_false, ite_true, ite_false, Act.put, List.setIfInBounds_toArray, List.set_cons_zero, List.set_cons_succ, q] at ha1
      subst ha1
      refine value_ (w1 := ?_) (v := ?_) (by rfl) rfl ?_ ?_
      rotate_left 2
      · go_simp
        constructor
        · rfl
        · rfl
      exact hK.out _ _ (hI.step 19 (Below.refl _ _) ⟨A, c, rfl, hc, r⟩)
  intro sel v W hsel hI
  obtain ⟨A2, c2, q2, k2, r2⟩ := hI.2 2 (hsel (2, 10, [1]) (by simp))
  obtain ⟨A4, c4, q4, k4, r4⟩ := hI.2 4 (hsel (4, 12, [3]) (by simp))
  obtain ⟨A6, c6, q6, k6, r6⟩ := hI.2 6 (hsel (6, 14, [5]) (by simp))
  obtain ⟨A8, c8, q8, k8, r8⟩ := hI.2 8 (hsel (8, 16, [7]) (by simp))
  obtain ⟨A10, c10, q10, k10, r10⟩ := hI.2 10 (hsel (10, 18, [9]) (by simp))
  obtain ⟨A12, c12, q12, k12, r12⟩ := hI.2 12 (hsel (12, 20, [11]) (by simp))
  obtain ⟨A15, c15, q15, k15, r15⟩ := hI.2 15 (hsel (15, 23, [14]) (by simp))
  obtain ⟨A19, c19, q19, k19, r19⟩ := hI.2 19 (hsel (19, 27, [18]) (by simp))
  have hB := Lib.hid hI.1
  have R2 := Lib.hid (And.intro k2 r2)
  have R4 := Lib.hid (And.intro k4 r4)
  have R6 := Lib.hid (And.intro k6 r6)
  have R8 := Lib.hid (And.intro k8 r8)
  have R10 := Lib.hid (And.intro k10 r10)
  have R12 := Lib.hid (And.intro k12 r12)
  have R15 := Lib.hid (And.intro k15 r15)
  have R19 := Lib.hid (And.intro k19 r19)
  clear hI hsel k2 r2 k4 r4 k6 r6 k8 r8 k10 r10 k12 r12 k15 r15 k19 r19
  refine norm_ (a' := ?_) ?_ ?_
  rotate_left
  · simp (decide := true) only [foldA, if_true, if_false, ite_true, ite_false, Act.put, List.setIfInBounds_toArray, List.set_cons_zero, List.set_cons_succ, q2, q4, q6, q8, q10, q12, q15, q19]
    rfl
  refine last_ (i := 20) (N := some 28) #[true, true, true, true, true, true, true, true, true, true, true, true, true, true, true, true, true, true, true, true, true, false, true] rfl rfl (by kernel_rfl) (by decide) (fun K hK => ?_)
  refine value_ (w1 := ?_) (v := ?_) (by rfl) rfl ?_ ?_
  rotate_left 2
  · go_simp
    constructor
    · rfl
    · rfl
  refine hK.out _ _ ?_
  clear hK K
  refine norm_ (a' := ?_) ?_ ?_
  rotate_left
  · show Act.put _ (some 28) _ = _
    simp only [Act.put, List.setIfInBounds_toArray, List.set_cons_zero, List.set_cons_succ, i64_w, i32_w]
    rfl
  refine pure_ (i := 21) (N := some 29) (v := ?_) (a' := ?_) #[true, true, true, true, true, true, true, true, true, true, true, true, true, true, true, true, true, true, true, true, true, true, true] rfl rfl (by kernel_rfl) (fun _ _ _ h => h) (Or.inl ⟨by rfl, ?_⟩) ?_ ?_
  rotate_left
  · intro w'
    go_simp
    with_reducible rfl
  rotate_left
  · simp only [Act.put, List.setIfInBounds_toArray, List.set_cons_zero, List.set_cons_succ, i64_w, i32_w]
    rfl
  refine done_ (by kernel_rfl) ?_
  obtain ⟨w1, hw1⟩ : ∃ x, W.alloc (.cells #[.slice none 0 0, .int .i64 4, .slice A2 1 c2, .int .i64 5, .slice A4 1 c4, .int .i64 4, .slice A6 2 c6, .int .i64 5, .slice A8 2 c8, .int .i64 5, .slice A10 2 c10, .int .i64 4, .slice A12 18 c12, .int .i64 5, .slice A15 18 c15, .int .i64 5, .slice A19 26 c19, .int .i64 5] 55) = x := ⟨_, rfl⟩
  obtain ⟨gT, hgT⟩ : ∃ x, W.heap.size = x := ⟨_, rfl⟩
  have T1 := Lib.hid (show w1.heap[gT]? = some (.cells #[.slice none 0 0, .int .i64 4, .slice A2 1 c2, .int .i64 5, .slice A4 1 c4, .int .i64 4, .slice A6 2 c6, .int .i64 5, .slice A8 2 c8, .int .i64 5, .slice A10 2 c10, .int .i64 4, .slice A12 18 c12, .int .i64 5, .slice A15 18 c15, .int .i64 5, .slice A19 26 c19, .int .i64 5] 55) by rw [← hw1, ← hgT]; exact heap_alloc_new W _)
  have bW : Below W.heap.size W w1 := by rw [← hw1]; exact row_n
  have B1 := Lib.hid (below_then hB.out hB.out.size bW)
  have D1 := Lib.hid (show KB [(A2, 1, [2]), (A4, 1, [1]), (A6, 2, [1, 0]), (A8, 2, [1, 9]), (A10, 2, [1, 1]), (A12, 18, List.replicate 18 0), (A15, 18, [0, 1] ++ List.replicate 16 0), (A19, 26, T18 ++ T8)] w1 from KB.cons (R2.out.2.below bW) (KB.cons (R4.out.2.below bW) (KB.cons (R6.out.2.below bW) (KB.cons (R8.out.2.below bW) (KB.cons (R10.out.2.below bW) (KB.cons (R12.out.2.below bW) (KB.cons (R15.out.2.below bW) (KB.cons (R19.out.2.below bW) (KB.nil)))))))))
  have CC := Lib.hid (show 1 ≤ c2 ∧ 1 ≤ c4 ∧ 2 ≤ c6 ∧ 2 ≤ c8 ∧ 2 ≤ c10 ∧ 18 ≤ c12 ∧ 18 ≤ c15 ∧ 26 ≤ c19 from ⟨R2.out.1, R4.out.1, R6.out.1, R8.out.1, R10.out.1, R12.out.1, R15.out.1, R19.out.1⟩)
  rw [hw1, hgT]
  go_wp2_with fail
  clear hHeld bW hw1 hgT hB m18 R2 R4 R6 R8 R10 R12 R15 R19
  go_loopw [30] (fun iv wr => ∃ k : Nat, k ≤ 9 ∧ iv = .int .i64 (k : Int) ∧ wr.heap[gT]? = some (.cells #[.slice none 0 0, .int .i64 4, .slice A2 1 c2, .int .i64 5, .slice A4 1 c4, .int .i64 4, .slice A6 2 c6, .int .i64 5, .slice A8 2 c8, .int .i64 5, .slice A10 2 c10, .int .i64 4, .slice A12 18 c12, .int .i64 5, .slice A15 18 c15, .int .i64 5, .slice A19 26 c19, .int .i64 5] 55) ∧ KB [(A2, 1, [2]), (A4, 1, [1]), (A6, 2, [1, 0]), (A8, 2, [1, 9]), (A10, 2, [1, 1]), (A12, 18, List.replicate 18 0), (A15, 18, [0, 1] ++ List.replicate 16 0), (A19, 26, T18 ++ T8)] wr ∧ Below w.heap.size w wr) (fun iv _ => 9 - (intOf iv).toNat)
  case atStart => exact ⟨0, by omega, rfl, T1.out, D1.out, B1.out⟩
  case round =>
    obtain ⟨k, hk, rfl, ht, hd, hb⟩ := hrel
    have T2 := Lib.hid ht
    have D2 := Lib.hid hd
    have B2 := Lib.hid hb
    clear ht hd hb T1 D1 B1
    by_cases hlt : k < 9
    · have hk9 : k = 0 ∨ k = 1 ∨ k = 2 ∨ k = 3 ∨ k = 4 ∨ k = 5 ∨ k = 6 ∨ k = 7 ∨ k = 8 := by omega
      clear hk hlt
      rcases hk9 with rfl | rfl | rfl | rfl | rfl | rfl | rfl | rfl | rfl
      · have f0 : wr.cell? ⟨gT, 0, none⟩ = some (.slice none 0 0) := cell_row T2.out rfl
        have f1 : wr.cell? ⟨gT, 1, none⟩ = some (.int .i64 4) := cell_row T2.out rfl
        have b3 : Below wr.heap.size wr (wr.alloc (.cells #[.slice none 0 0, .int .i64 4] 55)) := row_n
        go_wp2_with fail
        clear f0 f1
        refine (take_at ([]) _ ((show ReadsInt wr .u8 none 0 [] from ⟨rfl, by omega, fun h => absurd h (Nat.lt_irrefl 0)⟩).below b3) (by decide +kernel) (Nat.le_refl 0) (show takeN ([]) = ⟨4, false, [], []⟩ by kernel_rfl) rfl rfl).mono ?_; rintro e w4 ⟨E1, u1, E2, u2, rfl, -, -, -, hb⟩
        have b4 := below_then b3 b3.size hb
        have T4 := Lib.hid (keep_row T2.out b4)
        have D4 := Lib.hid (D2.out.below b4)
        have B4 := Lib.hid (below_then' B2.out b4)
        have x1 : (w4.alloc (.cells #[.bool false, .slice E1 0 u1, .slice E2 0 u2] 24)).cell? ⟨wr.heap.size, 1, none⟩ = some (.int .i64 4) := cell_row (alloc_row (keep_row (heap_alloc_new wr _) hb) _) rfl
        clear hb b3 b4
        go_wp2_with fail
        go_roundw
        case rel => exact ⟨1, by omega, rfl, alloc_row T4.out _, D4.out.below row_n, below_then' B4.out row_n⟩
        case measure => simp [intOf]
      · have f0 : wr.cell? ⟨gT, 2, none⟩ = some (.slice A2 1 c2) := cell_row T2.out rfl
        have f1 : wr.cell? ⟨gT, 3, none⟩ = some (.int .i64 5) := cell_row T2.out rfl
        have b3 : Below wr.heap.size wr (wr.alloc (.cells #[.slice A2 1 c2, .int .i64 5] 55)) := row_n
        go_wp2_with fail
        clear f0 f1
        refine (take_at ([2]) _ ((D2.out.rd 0 rfl).below b3) (by decide +kernel) (CC.out.1) (show takeN ([2]) = ⟨5, false, [], []⟩ by kernel_rfl) rfl rfl).mono ?_; rintro e w4 ⟨E1, u1, E2, u2, rfl, -, -, -, hb⟩
        have b4 := below_then b3 b3.size hb
        have T4 := Lib.hid (keep_row T2.out b4)
        have D4 := Lib.hid (D2.out.below b4)
        have B4 := Lib.hid (below_then' B2.out b4)
        have x1 : (w4.alloc (.cells #[.bool false, .slice E1 0 u1, .slice E2 0 u2] 24)).cell? ⟨wr.heap.size, 1, none⟩ = some (.int .i64 5) := cell_row (alloc_row (keep_row (heap_alloc_new wr _) hb) _) rfl
        clear hb b3 b4
        go_wp2_with fail
        go_roundw
        case rel => exact ⟨2, by omega, rfl, alloc_row T4.out _, D4.out.below row_n, below_then' B4.out row_n⟩
        case measure => simp [intOf]
      · have f0 : wr.cell? ⟨gT, 4, none⟩ = some (.slice A4 1 c4) := cell_row T2.out rfl
        have f1 : wr.cell? ⟨gT, 5, none⟩ = some (.int .i64 4) := cell_row T2.out rfl
        have b3 : Below wr.heap.size wr (wr.alloc (.cells #[.slice A4 1 c4, .int .i64 4] 55)) := row_n
        go_wp2_with fail
        clear f0 f1
        refine (take_at ([1]) _ ((D2.out.rd 1 rfl).below b3) (by decide +kernel) (CC.out.2.1) (show takeN ([1]) = ⟨4, false, [], []⟩ by kernel_rfl) rfl rfl).mono ?_; rintro e w4 ⟨E1, u1, E2, u2, rfl, -, -, -, hb⟩
        have b4 := below_then b3 b3.size hb
        have T4 := Lib.hid (keep_row T2.out b4)
        have D4 := Lib.hid (D2.out.below b4)
        have B4 := Lib.hid (below_then' B2.out b4)
        have x1 : (w4.alloc (.cells #[.bool false, .slice E1 0 u1, .slice E2 0 u2] 24)).cell? ⟨wr.heap.size, 1, none⟩ = some (.int .i64 4) := cell_row (alloc_row (keep_row (heap_alloc_new wr _) hb) _) rfl
        clear hb b3 b4
        go_wp2_with fail
        go_roundw
        case rel => exact ⟨3, by omega, rfl, alloc_row T4.out _, D4.out.below row_n, below_then' B4.out row_n⟩
        case measure => simp [intOf]
      · have f0 : wr.cell? ⟨gT, 6, none⟩ = some (.slice A6 2 c6) := cell_row T2.out rfl
        have f1 : wr.cell? ⟨gT, 7, none⟩ = some (.int .i64 5) := cell_row T2.out rfl
        have b3 : Below wr.heap.size wr (wr.alloc (.cells #[.slice A6 2 c6, .int .i64 5] 55)) := row_n
        go_wp2_with fail
        clear f0 f1
        refine (take_at ([1, 0]) _ ((D2.out.rd 2 rfl).below b3) (by decide +kernel) (CC.out.2.2.1) (show takeN ([1, 0]) = ⟨5, false, [], []⟩ by kernel_rfl) rfl rfl).mono ?_; rintro e w4 ⟨E1, u1, E2, u2, rfl, -, -, -, hb⟩
        have b4 := below_then b3 b3.size hb
        have T4 := Lib.hid (keep_row T2.out b4)
        have D4 := Lib.hid (D2.out.below b4)
        have B4 := Lib.hid (below_then' B2.out b4)
        have x1 : (w4.alloc (.cells #[.bool false, .slice E1 0 u1, .slice E2 0 u2] 24)).cell? ⟨wr.heap.size, 1, none⟩ = some (.int .i64 5) := cell_row (alloc_row (keep_row (heap_alloc_new wr _) hb) _) rfl
        clear hb b3 b4
        go_wp2_with fail
        go_roundw
        case rel => exact ⟨4, by omega, rfl, alloc_row T4.out _, D4.out.below row_n, below_then' B4.out row_n⟩
        case measure => simp [intOf]
      · have f0 : wr.cell? ⟨gT, 8, none⟩ = some (.slice A8 2 c8) := cell_row T2.out rfl
        have f1 : wr.cell? ⟨gT, 9, none⟩ = some (.int .i64 5) := cell_row T2.out rfl
        have b3 : Below wr.heap.size wr (wr.alloc (.cells #[.slice A8 2 c8, .int .i64 5] 55)) := row_n
        go_wp2_with fail
        clear f0 f1
        refine (take_at ([1, 9]) _ ((D2.out.rd 3 rfl).below b3) (by decide +kernel) (CC.out.2.2.2.1) (show takeN ([1, 9]) = ⟨5, false, [], []⟩ by kernel_rfl) rfl rfl).mono ?_; rintro e w4 ⟨E1, u1, E2, u2, rfl, -, -, -, hb⟩
        have b4 := below_then b3 b3.size hb
        have T4 := Lib.hid (keep_row T2.out b4)
        have D4 := Lib.hid (D2.out.below b4)
        have B4 := Lib.hid (below_then' B2.out b4)
        have x1 : (w4.alloc (.cells #[.bool false, .slice E1 0 u1, .slice E2 0 u2] 24)).cell? ⟨wr.heap.size, 1, none⟩ = some (.int .i64 5) := cell_row (alloc_row (keep_row (heap_alloc_new wr _) hb) _) rfl
        clear hb b3 b4
        go_wp2_with fail
        go_roundw
        case rel => exact ⟨5, by omega, rfl, alloc_row T4.out _, D4.out.below row_n, below_then' B4.out row_n⟩
        case measure => simp [intOf]
      · have f0 : wr.cell? ⟨gT, 10, none⟩ = some (.slice A10 2 c10) := cell_row T2.out rfl
        have f1 : wr.cell? ⟨gT, 11, none⟩ = some (.int .i64 4) := cell_row T2.out rfl
        have b3 : Below wr.heap.size wr (wr.alloc (.cells #[.slice A10 2 c10, .int .i64 4] 55)) := row_n
        go_wp2_with fail
        clear f0 f1
        refine (take_at ([1, 1]) _ ((D2.out.rd 4 rfl).below b3) (by decide +kernel) (CC.out.2.2.2.2.1) (show takeN ([1, 1]) = ⟨4, false, [], []⟩ by kernel_rfl) rfl rfl).mono ?_; rintro e w4 ⟨E1, u1, E2, u2, rfl, -, -, -, hb⟩
        have b4 := below_then b3 b3.size hb
        have T4 := Lib.hid (keep_row T2.out b4)
        have D4 := Lib.hid (D2.out.below b4)
        have B4 := Lib.hid (below_then' B2.out b4)
        have x1 : (w4.alloc (.cells #[.bool false, .slice E1 0 u1, .slice E2 0 u2] 24)).cell? ⟨wr.heap.size, 1, none⟩ = some (.int .i64 4) := cell_row (alloc_row (keep_row (heap_alloc_new wr _) hb) _) rfl
        clear hb b3 b4
        go_wp2_with fail
        go_roundw
        case rel => exact ⟨6, by omega, rfl, alloc_row T4.out _, D4.out.below row_n, below_then' B4.out row_n⟩
        case measure => simp [intOf]
      · have f0 : wr.cell? ⟨gT, 12, none⟩ = some (.slice A12 18 c12) := cell_row T2.out rfl
        have f1 : wr.cell? ⟨gT, 13, none⟩ = some (.int .i64 5) := cell_row T2.out rfl
        have b3 : Below wr.heap.size wr (wr.alloc (.cells #[.slice A12 18 c12, .int .i64 5] 55)) := row_n
        go_wp2_with fail
        clear f0 f1
        refine (take_at (List.replicate 18 0) _ ((D2.out.rd 5 rfl).below b3) (by decide +kernel) (CC.out.2.2.2.2.2.1) (show takeN (List.replicate 18 0) = ⟨5, false, [], []⟩ by kernel_rfl) rfl rfl).mono ?_; rintro e w4 ⟨E1, u1, E2, u2, rfl, -, -, -, hb⟩
        have b4 := below_then b3 b3.size hb
        have T4 := Lib.hid (keep_row T2.out b4)
        have D4 := Lib.hid (D2.out.below b4)
        have B4 := Lib.hid (below_then' B2.out b4)
        have x1 : (w4.alloc (.cells #[.bool false, .slice E1 0 u1, .slice E2 0 u2] 24)).cell? ⟨wr.heap.size, 1, none⟩ = some (.int .i64 5) := cell_row (alloc_row (keep_row (heap_alloc_new wr _) hb) _) rfl
        clear hb b3 b4
        go_wp2_with fail
        go_roundw
        case rel => exact ⟨7, by omega, rfl, alloc_row T4.out _, D4.out.below row_n, below_then' B4.out row_n⟩
        case measure => simp [intOf]
      · have f0 : wr.cell? ⟨gT, 14, none⟩ = some (.slice A15 18 c15) := cell_row T2.out rfl
        have f1 : wr.cell? ⟨gT, 15, none⟩ = some (.int .i64 5) := cell_row T2.out rfl
        have b3 : Below wr.heap.size wr (wr.alloc (.cells #[.slice A15 18 c15, .int .i64 5] 55)) := row_n
        go_wp2_with fail
        clear f0 f1
        refine (take_at ([0, 1] ++ List.replicate 16 0) _ ((D2.out.rd 6 rfl).below b3) (by decide +kernel) (CC.out.2.2.2.2.2.2.1) (show takeN ([0, 1] ++ List.replicate 16 0) = ⟨5, false, [], []⟩ by kernel_rfl) rfl rfl).mono ?_; rintro e w4 ⟨E1, u1, E2, u2, rfl, -, -, -, hb⟩
        have b4 := below_then b3 b3.size hb
        have T4 := Lib.hid (keep_row T2.out b4)
        have D4 := Lib.hid (D2.out.below b4)
        have B4 := Lib.hid (below_then' B2.out b4)
        have x1 : (w4.alloc (.cells #[.bool false, .slice E1 0 u1, .slice E2 0 u2] 24)).cell? ⟨wr.heap.size, 1, none⟩ = some (.int .i64 5) := cell_row (alloc_row (keep_row (heap_alloc_new wr _) hb) _) rfl
        clear hb b3 b4
        go_wp2_with fail
        go_roundw
        case rel => exact ⟨8, by omega, rfl, alloc_row T4.out _, D4.out.below row_n, below_then' B4.out row_n⟩
        case measure => simp [intOf]
      · have f0 : wr.cell? ⟨gT, 16, none⟩ = some (.slice A19 26 c19) := cell_row T2.out rfl
        have f1 : wr.cell? ⟨gT, 17, none⟩ = some (.int .i64 5) := cell_row T2.out rfl
        have b3 : Below wr.heap.size wr (wr.alloc (.cells #[.slice A19 26 c19, .int .i64 5] 55)) := row_n
        go_wp2_with fail
        clear f0 f1
        refine (take_at (T18 ++ T8) _ ((D2.out.rd 7 rfl).below b3) (by decide +kernel) (CC.out.2.2.2.2.2.2.2) (show takeN (T18 ++ T8) = ⟨5, false, [], []⟩ by kernel_rfl) rfl rfl).mono ?_; rintro e w4 ⟨E1, u1, E2, u2, rfl, -, -, -, hb⟩
        have b4 := below_then b3 b3.size hb
        have T4 := Lib.hid (keep_row T2.out b4)
        have D4 := Lib.hid (D2.out.below b4)
        have B4 := Lib.hid (below_then' B2.out b4)
        have x1 : (w4.alloc (.cells #[.bool false, .slice E1 0 u1, .slice E2 0 u2] 24)).cell? ⟨wr.heap.size, 1, none⟩ = some (.int .i64 5) := cell_row (alloc_row (keep_row (heap_alloc_new wr _) hb) _) rfl
        clear hb b3 b4
        go_wp2_with fail
        go_roundw
        case rel => exact ⟨9, by omega, rfl, alloc_row T4.out _, D4.out.below row_n, below_then' B4.out row_n⟩
        case measure => simp [intOf]
    · obtain rfl : k = 9 := by omega
      clear hk hlt T2 D2 CC q2 q4 q6 q8 q10 q12 q15 q19
      go_wp2_with fail
      obtain ⟨w5, hw5⟩ : ∃ x, wr.alloc (.cells #[.bool false, .slice none 0 0, .slice none 0 0] 24) = x := ⟨_, rfl⟩
      obtain ⟨gN, hgN⟩ : ∃ g, wr.heap.size = g := ⟨_, rfl⟩
      have b5 : Below wr.heap.size wr w5 := by rw [← hw5]; exact row_n
      have f5 : w5.heap[wr.heap.size]? = some (.cells #[.bool false, .slice none 0 0, .slice none 0 0] 24) := by rw [← hw5]; exact heap_alloc_new wr _
      have s5 : w5.heap.size = wr.heap.size + 1 := by rw [← hw5]; exact World.size_alloc _ _
      have ST3 := Lib.hid (show St w w5.heap.size gN 24 25 #[.bool false, .slice none 0 0, .slice none 0 0] [] (.slice none 0 0) (.slice none 0 0) 0 0 (keysN 0) (List.replicate 0 1) w5 from by
        have hz := B2.out.size
        exact ⟨own_nil _ _ _ _, own_nil _ _ _ _, fun p hp => by simp [Value.ownBlock] at hp, by rw [← hgN]; exact f5, fun p hp => absurd hp List.not_mem_nil, below_then' B2.out b5, by omega, Nat.le_refl _, by omega⟩)
      rw [hw5, hgN]
      clear hw5 b5 f5 s5 B2 hgN
      go_loopw [46] (fun iv wr => ∃ (j c1 c2 : Nat) (A1 A2 : Option Addr), j ≤ 9 ∧ iv = .int .i64 (j : Int) ∧ St w w5.heap.size gN 24 25 #[.bool false, .slice A1 j c1, .slice A2 j c2] [] (.slice A1 j c1) (.slice A2 j c2) j j (keysN j) (List.replicate j 1) wr) (fun iv _ => 9 - (intOf iv).toNat)
      case atStart => exact ⟨0, 0, 0, none, none, by omega, rfl, ST3.out⟩
      case round =>
        obtain ⟨j, c1, c2, A1, A2, hj, rfl, hst⟩ := hrel
        have ST6 := Lib.hid hst
        clear hst ST3
        by_cases hlt : j < 9
        · have HLT := Lib.hid hlt
          have HJ8 := Lib.hid (show (j + 1) * 8 ≤ 140737488355328 ∧ j + 1 ≤ 9223372036854775807 by omega)
          have HTK := Lib.hid (show keysN j ++ [(j : Int)] = keysN (j + 1) from (keysN_succ j).symm)
          have HPL := Lib.hid (show List.replicate j (1 : Int) ++ [1] = List.replicate (j + 1) 1 from List.replicate_succ'.symm)
          obtain ⟨KS, hKS⟩ : ∃ KS, keysN j = KS := ⟨_, rfl⟩
          obtain ⟨VS, hVS⟩ : ∃ VS, List.replicate j (1 : Int) = VS := ⟨_, rfl⟩
          rw [hKS, hVS] at ST6
          rw [hKS] at HTK
          rw [hVS] at HPL
          have dj : decide ((j : Int) < 9) = true := decide_eq_true (by omega)
          have j9 : (j : Int) < 9 := by omega
          have hv2 : IntKind.u64.wrap (j : Int) = (j : Int) := by rw [IntKind.wrap_u64]; omega
          clear hKS hVS hj hlt
          go_wp2_with fail
          have Sd := Lib.hid (St.drew ST6.out)
          have Sa := Lib.hid (St.alloc Sd.out (.cells #[.int .u64 (j : Int)] 25))
          have Sab := Lib.hid (St.alloc Sa.out (.cells #[.int .u64 1] 25))
          have Sb := Lib.hid (St.alloc Sd.out (.cells #[.int .u64 1] 25))
          have Sba := Lib.hid (St.alloc Sb.out (.cells #[.int .u64 (j : Int)] 25))
          have ca : (wr.drew.alloc (.cells #[.int .u64 (j : Int)] 25)).cell? ⟨wr.heap.size, 0, none⟩ = some (.int .u64 (j : Int)) := cell_row (heap_alloc_new wr.drew _) rfl
          have cab1 : ((wr.drew.alloc (.cells #[.int .u64 (j : Int)] 25)).alloc (.cells #[.int .u64 1] 25)).cell? ⟨wr.heap.size, 0, none⟩ = some (.int .u64 (j : Int)) := cell_row (alloc_row (heap_alloc_new wr.drew _) _) rfl
          have cab2 : ((wr.drew.alloc (.cells #[.int .u64 (j : Int)] 25)).alloc (.cells #[.int .u64 1] 25)).heap[wr.heap.size + 1]? = some (.cells #[.int .u64 1] 25) := heap_alloc2_new wr.drew _ _
          have cba1 : ((wr.drew.alloc (.cells #[.int .u64 1] 25)).alloc (.cells #[.int .u64 (j : Int)] 25)).heap[wr.heap.size]? = some (.cells #[.int .u64 1] 25) := alloc_row (heap_alloc_new wr.drew _) _
          have cba2 : ((wr.drew.alloc (.cells #[.int .u64 1] 25)).alloc (.cells #[.int .u64 (j : Int)] 25)).cell? ⟨wr.heap.size + 1, 0, none⟩ = some (.int .u64 (j : Int)) := cell_row (heap_alloc2_new wr.drew _ _) rfl
          obtain ⟨B1a, e1, x1, rx1, ox1, gx1, bx1⟩ := app_one (c := 1) Try.underlying22 info64 Sab.out.ok cab1 HJ8.out.1 HJ8.out.2 Sab.out.le
          obtain ⟨B2a, e2, x2, rx2, ox2, gx2, bx2⟩ := app_one (c := 1) Try.underlying22 info64 Sba.out.ok cba2 HJ8.out.1 HJ8.out.2 Sba.out.le
          obtain ⟨B3a, e3, x3, rx3, ox3, gx3, bx3⟩ := app_one (c := 1) Try.underlying22 info64 Sa.out.ok ca HJ8.out.1 HJ8.out.2 Sa.out.le
          have X1 := Lib.hid (St.app_k Sab.out ox1 gx1 bx1)
          have X2 := Lib.hid (St.app_k Sba.out ox2 gx2 bx2)
          have X3' := Lib.hid (St.app_k Sa.out ox3 gx3 bx3)
          have C1 := Lib.hid (show x1.cell? ⟨wr.heap.size + 1, 0, none⟩ = some (.int .u64 1) from cell_row (St_keep_new' gx1 (fun p hp => by have := own_lt Sd.out.ok p hp; exact (show p < wr.heap.size from this)) (Nat.le_succ _) cab2) rfl)
          have C2 := Lib.hid (show x2.cell? ⟨wr.heap.size, 0, none⟩ = some (.int .u64 1) from cell_row (St_keep_new' gx2 (fun p hp => by have := own_lt Sd.out.ok p hp; exact (show p < wr.heap.size from this)) (Nat.le_refl _) cba1) rfl)
          have X3b := Lib.hid (St.alloc X3'.out (.cells #[.int .u64 1] 25))
          have C3 := Lib.hid (show (x3.alloc (.cells #[.int .u64 1] 25)).cell? ⟨x3.heap.size, 0, none⟩ = some (.int .u64 1) from cell_row (heap_alloc_new x3 _) rfl)
          have RX1 := Lib.hid rx1
          have RX2 := Lib.hid rx2
          have RX3 := Lib.hid rx3
          clear ca cab1 cab2 cba1 cba2 rx1 ox1 gx1 bx1 rx2 ox2 gx2 bx2 rx3 ox3 gx3 bx3
          refine start_ (n := 14) (S := fun w' => w'.cell? ⟨gN, 1, none⟩ = some (.slice A1 j c1) ∧ w'.cell? ⟨gN, 2, none⟩ = some (.slice A2 j c2)) (ds := [11, 13]) #[false, false, false, false, false, false, false, false, false, false, false, false, false, false] (by kernel_rfl) rfl rfl ⟨cell_row Sd.out.node rfl, cell_row Sd.out.node rfl⟩ (fun hHeld => ?_)
          refine pure_ (i := 0) (N := some 49) (v := ?_) (a' := ?_) #[true, false, false, false, false, false, false, false, false, false, false, false, false, false] rfl rfl (by kernel_rfl) (fun _ _ _ h => h) (Or.inl ⟨by rfl, ?_⟩) ?_ ?_
          rotate_left
          · intro w'
            go_simp
            with_reducible rfl
          rotate_left
          · simp only [Act.put, List.setIfInBounds_toArray, List.set_cons_zero, List.set_cons_succ, i64_w, i32_w]
            rfl
          refine pure_ (i := 2) (N := some 51) (v := ?_) (a' := ?_) #[true, false, true, false, false, false, false, false, false, false, false, false, false, false] rfl rfl (by kernel_rfl) (fun _ _ _ h => h) (Or.inl ⟨by rfl, ?_⟩) ?_ ?_
          rotate_left
          · intro w'
            go_simp
            with_reducible rfl
          rotate_left
          · simp only [Act.put, List.setIfInBounds_toArray, List.set_cons_zero, List.set_cons_succ, i64_w, i32_w]
            rfl
          refine pure_ (i := 3) (N := some 52) (v := ?_) (a' := ?_) #[true, false, true, true, false, false, false, false, false, false, false, false, false, false] rfl rfl (by kernel_rfl) (fun _ _ _ h => h) (Or.inl ⟨by rfl, ?_⟩) ?_ ?_
          rotate_left
          · intro w'
            go_simp
            with_reducible rfl
          rotate_left
          · simp only [Act.put, List.setIfInBounds_toArray, List.set_cons_zero, List.set_cons_succ, i64_w, i32_w]
            rfl
          refine pure_ (i := 6) (N := some 55) (v := ?_) (a' := ?_) #[true, false, true, true, false, false, true, false, false, false, false, false, false, false] rfl rfl (by kernel_rfl) (fun _ _ _ h => h) (Or.inl ⟨by rfl, ?_⟩) ?_ ?_
          rotate_left
          · intro w'
            go_simp
            with_reducible rfl
          rotate_left
          · simp only [Act.put, List.setIfInBounds_toArray, List.set_cons_zero, List.set_cons_succ, i64_w, i32_w]
            rfl
          refine take_ (i := 1) (N := some 50) (v := ?_) (a' := ?_) #[true, true, true, true, false, false, true, false, false, false, false, false, false, false] rfl rfl (by kernel_rfl) (fun _ _ _ h => h) (Or.inl ⟨by rfl, ?_⟩) hHeld ?_ ?_
          rotate_left
          · rintro w' ⟨s0, s1⟩
            go_simp
            with_reducible rfl
          rotate_left
          · simp only [Act.put, List.setIfInBounds_toArray, List.set_cons_zero, List.set_cons_succ, i64_w, i32_w]
            rfl
          refine take_ (i := 7) (N := some 56) (v := ?_) (a' := ?_) #[true, true, true, true, false, false, true, true, false, false, false, false, false, false] rfl rfl (by kernel_rfl) (fun _ _ _ h => h) (Or.inl ⟨by rfl, ?_⟩) hHeld ?_ ?_
          rotate_left
          · rintro w' ⟨s0, s1⟩
            go_simp
            with_reducible rfl
          rotate_left
          · simp only [Act.put, List.setIfInBounds_toArray, List.set_cons_zero, List.set_cons_succ, i64_w, i32_w]
            rfl
          refine join_ (σ := Nat × Option Addr × Nat × Nat) 4 #[true, true, true, true, true, true, true, true, true, false, true, false, false, false] (fun s => [(53, .slice (some ⟨s.1, 0, none⟩) 1 1), (54, .slice s.2.1 (j + 1) s.2.2.1), (57, .slice (some ⟨s.2.2.2, 0, none⟩) 1 1), (59, .pointer (some ⟨gN, 1, none⟩))]) (fun s w' => St w w5.heap.size gN 24 25 #[.bool false, .slice A1 j c1, .slice A2 j c2] [] (.slice s.2.1 (j + 1) s.2.2.1) (.slice A2 j c2) (j + 1) j (KS ++ [(j : Int)]) VS w' ∧ w'.cell? ⟨s.2.2.2, 0, none⟩ = some (.int .u64 1)) ?_ ?_
          rotate_left
          · intro hCont
            refine two_ (i := 4) (j := 8) (Ni := some 53) (Nj := some 57) #[true, true, true, true, true, false, true, true, false, false, false, false, false, false] #[true, true, true, true, false, false, true, true, true, false, false, false, false, false] rfl rfl rfl rfl (by kernel_rfl) (by decide) (by decide) (fun K hK => ?_) (fun K hK => ?_)
            · skip
              refine value_ (w1 := ?_) (v := ?_) (by rfl) rfl ?_ ?_
              rotate_left 2
              · go_simp
                constructor
                · rfl
                · rfl
              refine hK.out _ _ ⟨cell_row Sa.out.node rfl, cell_row Sa.out.node rfl⟩ (fun hHeld => ?_)
              clear hK K
              refine norm_ (a' := ?_) ?_ ?_
              rotate_left
              · show Act.put _ (some 53) _ = _
                simp only [Act.put, List.setIfInBounds_toArray, List.set_cons_zero, List.set_cons_succ, i64_w, i32_w]
                rfl
              refine two_ (i := 5) (j := 8) (Ni := some 54) (Nj := some 57) #[true, true, true, true, true, true, true, true, false, false, false, false, false, false] #[true, true, true, true, true, false, true, true, true, false, false, false, false, false] rfl rfl rfl rfl (by kernel_rfl) (by decide) (by decide) (fun K hK => ?_) (fun K hK => ?_)
              · skip
                refine value_ (w1 := x3) (v := .slice B3a (j + 1) e3) (by rfl) rfl (exec_app (.tmp 50) (.tmp 53) ?_ ?_ ?_ RX3.out) ?_
                · rfl
                · rfl
                · rfl
                refine hK.out _ _ ⟨cell_row X3'.out.node rfl, cell_row X3'.out.node rfl⟩ (fun hHeld => ?_)
                clear hK K
                refine norm_ (a' := ?_) ?_ ?_
                rotate_left
                · show Act.put _ (some 54) _ = _
                  simp only [Act.put, List.setIfInBounds_toArray, List.set_cons_zero, List.set_cons_succ, i64_w, i32_w]
                  rfl
                refine pure_ (i := 10) (N := some 59) (v := ?_) (a' := ?_) #[true, true, true, true, true, true, true, true, false, false, true, false, false, false] rfl rfl (by kernel_rfl) (fun _ _ _ h => h) (Or.inl ⟨by rfl, ?_⟩) ?_ ?_
                rotate_left
                · intro w'
                  go_simp
                  with_reducible rfl
                rotate_left
                · simp only [Act.put, List.setIfInBounds_toArray, List.set_cons_zero, List.set_cons_succ, i64_w, i32_w]
                  rfl
                refine one_ (i := 8) (N := some 57) #[true, true, true, true, true, true, true, true, true, false, true, false, false, false] rfl rfl (by kernel_rfl) (by decide) (fun K hK => ?_)
                refine value_ (w1 := ?_) (v := ?_) (by rfl) rfl ?_ ?_
                rotate_left 2
                · go_simp
                  constructor
                  · rfl
                  · rfl
                refine hK.out _ _ ⟨cell_row X3b.out.node rfl, cell_row X3b.out.node rfl⟩ (fun hHeld => ?_)
                clear hK K
                refine norm_ (a' := ?_) ?_ ?_
                rotate_left
                · show Act.put _ (some 57) _ = _
                  simp only [Act.put, List.setIfInBounds_toArray, List.set_cons_zero, List.set_cons_succ, i64_w, i32_w]
                  rfl
                exact norm_ (by simp only [putAll, Act.put, List.setIfInBounds_toArray, List.set_cons_zero, List.set_cons_succ]) (hCont (wr.heap.size, B3a, e3, x3.heap.size) _ ⟨X3b.out, C3.out⟩)
              · skip
                refine value_ (w1 := ?_) (v := ?_) (by rfl) rfl ?_ ?_
                rotate_left 2
                · go_simp
                  constructor
                  · rfl
                  · rfl
                refine hK.out _ _ ⟨cell_row Sab.out.node rfl, cell_row Sab.out.node rfl⟩ (fun hHeld => ?_)
                clear hK K
                refine norm_ (a' := ?_) ?_ ?_
                rotate_left
                · show Act.put _ (some 57) _ = _
                  simp only [Act.put, List.setIfInBounds_toArray, List.set_cons_zero, List.set_cons_succ, i64_w, i32_w]
                  rfl
                refine one_ (i := 5) (N := some 54) #[true, true, true, true, true, true, true, true, true, false, false, false, false, false] rfl rfl (by kernel_rfl) (by decide) (fun K hK => ?_)
                refine value_ (w1 := x1) (v := .slice B1a (j + 1) e1) (by rfl) rfl (exec_app (.tmp 50) (.tmp 53) ?_ ?_ ?_ RX1.out) ?_
                · rfl
                · rfl
                · rfl
                refine hK.out _ _ ⟨cell_row X1.out.node rfl, cell_row X1.out.node rfl⟩ (fun hHeld => ?_)
                clear hK K
                refine norm_ (a' := ?_) ?_ ?_
                rotate_left
                · show Act.put _ (some 54) _ = _
                  simp only [Act.put, List.setIfInBounds_toArray, List.set_cons_zero, List.set_cons_succ, i64_w, i32_w]
                  rfl
                refine pure_ (i := 10) (N := some 59) (v := ?_) (a' := ?_) #[true, true, true, true, true, true, true, true, true, false, true, false, false, false] rfl rfl (by kernel_rfl) (fun _ _ _ h => h) (Or.inl ⟨by rfl, ?_⟩) ?_ ?_
                rotate_left
                · intro w'
                  go_simp
                  with_reducible rfl
                rotate_left
                · simp only [Act.put, List.setIfInBounds_toArray, List.set_cons_zero, List.set_cons_succ, i64_w, i32_w]
                  rfl
                exact norm_ (by simp only [putAll, Act.put, List.setIfInBounds_toArray, List.set_cons_zero, List.set_cons_succ]) (hCont (wr.heap.size, B1a, e1, wr.heap.size + 1) _ ⟨X1.out, C1.out⟩)
            · skip
              refine value_ (w1 := ?_) (v := ?_) (by rfl) rfl ?_ ?_
              rotate_left 2
              · go_simp
                constructor
                · rfl
                · rfl
              refine hK.out _ _ ⟨cell_row Sb.out.node rfl, cell_row Sb.out.node rfl⟩ (fun hHeld => ?_)
              clear hK K
              refine norm_ (a' := ?_) ?_ ?_
              rotate_left
              · show Act.put _ (some 57) _ = _
                simp only [Act.put, List.setIfInBounds_toArray, List.set_cons_zero, List.set_cons_succ, i64_w, i32_w]
                rfl
              refine one_ (i := 4) (N := some 53) #[true, true, true, true, true, false, true, true, true, false, false, false, false, false] rfl rfl (by kernel_rfl) (by decide) (fun K hK => ?_)
              refine value_ (w1 := ?_) (v := ?_) (by rfl) rfl ?_ ?_
              rotate_left 2
              · go_simp
                constructor
                · rfl
                · rfl
              refine hK.out _ _ ⟨cell_row Sba.out.node rfl, cell_row Sba.out.node rfl⟩ (fun hHeld => ?_)
              clear hK K
              refine norm_ (a' := ?_) ?_ ?_
              rotate_left
              · show Act.put _ (some 53) _ = _
                simp only [Act.put, List.setIfInBounds_toArray, List.set_cons_zero, List.set_cons_succ, i64_w, i32_w]
                rfl
              refine one_ (i := 5) (N := some 54) #[true, true, true, true, true, true, true, true, true, false, false, false, false, false] rfl rfl (by kernel_rfl) (by decide) (fun K hK => ?_)
              refine value_ (w1 := x2) (v := .slice B2a (j + 1) e2) (by rfl) rfl (exec_app (.tmp 50) (.tmp 53) ?_ ?_ ?_ RX2.out) ?_
              · rfl
              · rfl
              · rfl
              refine hK.out _ _ ⟨cell_row X2.out.node rfl, cell_row X2.out.node rfl⟩ (fun hHeld => ?_)
              clear hK K
              refine norm_ (a' := ?_) ?_ ?_
              rotate_left
              · show Act.put _ (some 54) _ = _
                simp only [Act.put, List.setIfInBounds_toArray, List.set_cons_zero, List.set_cons_succ, i64_w, i32_w]
                rfl
              refine pure_ (i := 10) (N := some 59) (v := ?_) (a' := ?_) #[true, true, true, true, true, true, true, true, true, false, true, false, false, false] rfl rfl (by kernel_rfl) (fun _ _ _ h => h) (Or.inl ⟨by rfl, ?_⟩) ?_ ?_
              rotate_left
              · intro w'
                go_simp
                with_reducible rfl
              rotate_left
              · simp only [Act.put, List.setIfInBounds_toArray, List.set_cons_zero, List.set_cons_succ, i64_w, i32_w]
                rfl
              exact norm_ (by simp only [putAll, Act.put, List.setIfInBounds_toArray, List.set_cons_zero, List.set_cons_succ]) (hCont (wr.heap.size + 1, B2a, e2, wr.heap.size) _ ⟨X2.out, C2.out⟩)
          rintro ⟨g1, A4, c4, g2⟩ w7 ⟨hst7, hc7⟩
          have ST7 := Lib.hid hst7
          have hHeld : w7.cell? ⟨gN, 1, none⟩ = some (.slice A1 j c1) ∧ w7.cell? ⟨gN, 2, none⟩ = some (.slice A2 j c2) := ⟨cell_row hst7.node rfl, cell_row hst7.node rfl⟩
          clear hst7
          refine norm_ (a' := ?_) ?_ ?_
          rotate_left
          · simp only [putAll, Act.put, List.setIfInBounds_toArray, List.set_cons_zero, List.set_cons_succ]
            rfl
          refine one_ (i := 9) (N := some 58) #[true, true, true, true, true, true, true, true, true, true, true, false, false, false] rfl rfl (by kernel_rfl) (by decide) (fun K hK => ?_)
          obtain ⟨A5, c5, w8, hr8, ho8, hg8, hb8⟩ := app_one (c := 1) Try.underlying22 info64 ST7.out.ov hc7 HJ8.out.1 HJ8.out.2 ST7.out.le
          have ST8 := Lib.hid (St.app_v ST7.out ho8 hg8 hb8)
          have RX8 := Lib.hid hr8
          clear ho8 hg8 hb8 hr8
          refine value_ (w1 := w8) (v := .slice A5 (j + 1) c5) (by rfl) rfl (exec_app (.tmp 56) (.tmp 57) ?_ ?_ ?_ RX8.out) ?_
          · rfl
          · rfl
          · rfl
          refine hK.out _ _ ⟨cell_row ST8.out.node rfl, cell_row ST8.out.node rfl⟩ (fun hHeld => ?_)
          clear hK K
          refine norm_ (a' := ?_) ?_ ?_
          rotate_left
          · show Act.put _ (some 58) _ = _
            simp only [Act.put, List.setIfInBounds_toArray, List.set_cons_zero, List.set_cons_succ, i64_w, i32_w]
            rfl
          refine last_ (i := 11) (N := none) #[true, true, true, true, true, true, true, true, true, true, true, true, false, false] rfl rfl (by kernel_rfl) (by decide) (fun K hK => ?_)
          obtain ⟨w9, hw9⟩ : ∃ w9, w8.setCell ⟨gN, 1, none⟩ (.slice A4 (j + 1) c4) = w9 := ⟨_, rfl⟩
          have ST9 := Lib.hid (St.put ST8.out 1 (.slice A4 (j + 1) c4) (nd' := #[.bool false, .slice A4 (j + 1) c4, .slice A2 j c2]) rfl)
          rw [hw9] at ST9
          have q8 : w8.cell? ⟨gN, 1, none⟩ = some (.slice A1 j c1) := cell_row ST8.out.node rfl
          have z8 : w8.frozen? ⟨gN, 1, none⟩ = false := blk_frozen ST8.out.node 1
          refine skip_ (w1 := ?_) (by rfl) rfl ?_ ?_
          rotate_left
          · go_simp
            rfl
          refine hK.out _ _ ?_
          clear hK K
          refine pure_ (i := 12) (N := some 60) (v := ?_) (a' := ?_) #[true, true, true, true, true, true, true, true, true, true, true, true, true, false] rfl rfl (by kernel_rfl) (fun _ _ _ h => h) (Or.inl ⟨by rfl, ?_⟩) ?_ ?_
          rotate_left
          · intro w'
            go_simp
            with_reducible rfl
          rotate_left
          · simp only [Act.put, List.setIfInBounds_toArray, List.set_cons_zero, List.set_cons_succ, i64_w, i32_w]
            rfl
          refine last_ (i := 13) (N := none) #[true, true, true, true, true, true, true, true, true, true, true, true, true, true] rfl rfl (by kernel_rfl) (by decide) (fun K hK => ?_)
          obtain ⟨w10, hw10⟩ : ∃ w10, w9.setCell ⟨gN, 2, none⟩ (.slice A5 (j + 1) c5) = w10 := ⟨_, rfl⟩
          have ST10 := Lib.hid (St.put ST9.out 2 (.slice A5 (j + 1) c5) (nd' := #[.bool false, .slice A4 (j + 1) c4, .slice A5 (j + 1) c5]) rfl)
          rw [hw10] at ST10
          have q9 : w9.cell? ⟨gN, 2, none⟩ = some (.slice A2 j c2) := cell_row ST9.out.node rfl
          have z9 : w9.frozen? ⟨gN, 2, none⟩ = false := blk_frozen ST9.out.node 2
          refine skip_ (w1 := ?_) (by rfl) rfl ?_ ?_
          rotate_left
          · go_simp
            rfl
          refine hK.out _ _ ?_
          clear hK K
          refine done_ (by kernel_rfl) ?_
          clear q8 z8 q9 z9 hw9 hw10 hv2
          go_wp2_with fail
          go_roundw
          case rel => exact ⟨j + 1, c4, c5, A4, A5, HLT.out, by push_cast; rfl, by rw [← HTK.out, ← HPL.out]; exact ST10.out⟩
          case measure => simp [intOf]; have := HLT.out; omega
        · obtain rfl : j = 9 := by omega
          have hk9 := own_cap ST6.out.ok
          have hv9 := own_cap ST6.out.ov
          have ck : (8 : Int) ≤ (c1 : Int) := by omega
          have cv : (8 : Int) ≤ (c2 : Int) := by omega
          have RK := Lib.hid (reads_own_of ST6.out.ok (show (keysN 9).length = 9 by rfl) rfl)
          have RV := Lib.hid (reads_own_of ST6.out.ov (show (List.replicate 9 (1 : Int)).length = 9 by rfl) rfl)
          have GN := Lib.hid ST6.out.node
          have B6 := Lib.hid ST6.out.bel
          clear hj hlt hk9 hv9 ST6
          go_wp2_with fail
          refine start_ (n := 9) (S := fun w' => w'.cell? ⟨gN, 1, none⟩ = some (.slice A1 9 c1) ∧ w'.cell? ⟨gN, 2, none⟩ = some (.slice A2 9 c2)) (ds := [8]) #[false, false, false, false, false, false, false, false, false] (by kernel_rfl) rfl rfl ⟨cell_row GN.out rfl, cell_row GN.out rfl⟩ (fun hHeld => ?_)
          refine pure_ (i := 0) (N := some 62) (v := ?_) (a' := ?_) #[true, false, false, false, false, false, false, false, false] rfl rfl (by kernel_rfl) (fun _ _ _ h => h) (Or.inl ⟨by rfl, ?_⟩) ?_ ?_
          rotate_left
          · intro w'
            go_simp
            with_reducible rfl
          rotate_left
          · simp only [Act.put, List.setIfInBounds_toArray, List.set_cons_zero, List.set_cons_succ, i64_w, i32_w]
            rfl
          refine pure_ (i := 3) (N := some 65) (v := ?_) (a' := ?_) #[true, false, false, true, false, false, false, false, false] rfl rfl (by kernel_rfl) (fun _ _ _ h => h) (Or.inl ⟨by rfl, ?_⟩) ?_ ?_
          rotate_left
          · intro w'
            go_simp
            with_reducible rfl
          rotate_left
          · simp only [Act.put, List.setIfInBounds_toArray, List.set_cons_zero, List.set_cons_succ, i64_w, i32_w]
            rfl
          refine take_ (i := 1) (N := some 63) (v := ?_) (a' := ?_) #[true, true, false, true, false, false, false, false, false] rfl rfl (by kernel_rfl) (fun _ _ _ h => h) (Or.inl ⟨by rfl, ?_⟩) hHeld ?_ ?_
          rotate_left
          · rintro w' ⟨s0, s1⟩
            go_simp
            with_reducible rfl
          rotate_left
          · simp only [Act.put, List.setIfInBounds_toArray, List.set_cons_zero, List.set_cons_succ, i64_w, i32_w]
            rfl
          refine pure_ (i := 2) (N := some 64) (v := ?_) (a' := ?_) #[true, true, true, true, false, false, false, false, false] rfl rfl (by kernel_rfl) (fun _ _ _ h => h) (Or.inl ⟨by rfl, ?_⟩) ?_ ?_
          rotate_left
          · intro w'
            go_simp
            with_reducible rfl
          rotate_left
          · simp only [Act.put, List.setIfInBounds_toArray, List.set_cons_zero, List.set_cons_succ, i64_w, i32_w]
            rfl
          refine take_ (i := 4) (N := some 66) (v := ?_) (a' := ?_) #[true, true, true, true, true, false, false, false, false] rfl rfl (by kernel_rfl) (fun _ _ _ h => h) (Or.inl ⟨by rfl, ?_⟩) hHeld ?_ ?_
          rotate_left
          · rintro w' ⟨s0, s1⟩
            go_simp
            with_reducible rfl
          rotate_left
          · simp only [Act.put, List.setIfInBounds_toArray, List.set_cons_zero, List.set_cons_succ, i64_w, i32_w]
            rfl
          refine pure_ (i := 5) (N := some 67) (v := ?_) (a' := ?_) #[true, true, true, true, true, true, false, false, false] rfl rfl (by kernel_rfl) (fun _ _ _ h => h) (Or.inl ⟨by rfl, ?_⟩) ?_ ?_
          rotate_left
          · intro w'
            go_simp
            with_reducible rfl
          rotate_left
          · simp only [Act.put, List.setIfInBounds_toArray, List.set_cons_zero, List.set_cons_succ, i64_w, i32_w]
            rfl
          refine pure_ (i := 6) (N := some 68) (v := ?_) (a' := ?_) #[true, true, true, true, true, true, true, false, false] rfl rfl (by kernel_rfl) (fun _ _ _ h => h) (Or.inl ⟨by rfl, ?_⟩) ?_ ?_
          rotate_left
          · intro w'
            go_simp
            with_reducible rfl
          rotate_left
          · simp only [Act.put, List.setIfInBounds_toArray, List.set_cons_zero, List.set_cons_succ, i64_w, i32_w]
            rfl
          refine one_ (i := 7) (N := some 7) #[true, true, true, true, true, true, true, true, false] rfl rfl (by kernel_rfl) (by decide) (fun K hK => ?_)
          refine value_ (w1 := ?_) (v := ?_) (by rfl) rfl ?_ ?_
          rotate_left 2
          · go_simp
            constructor
            · rfl
            · rfl
          have b7 : Below wr.heap.size wr (wr.alloc (.cells #[.bool false, .slice none 0 0, .slice none 0 0] 24)).drew := below_drew row_n
          have f7 : (wr.alloc (.cells #[.bool false, .slice none 0 0, .slice none 0 0] 24)).drew.heap[wr.heap.size]? = some (.cells #[.bool false, .slice none 0 0, .slice none 0 0] 24) := heap_alloc_new wr _
          obtain ⟨w6, hw6⟩ : ∃ x, (wr.alloc (.cells #[.bool false, .slice none 0 0, .slice none 0 0] 24)).drew = x := ⟨_, rfl⟩
          rw [hw6] at b7 f7
          have B7 := Lib.hid (And.intro b7 f7)
          clear b7 f7
          refine hK.out _ _ ⟨by rw [hw6]; exact cell_row (keep_row GN.out B7.out.1) rfl, by rw [hw6]; exact cell_row (keep_row GN.out B7.out.1) rfl⟩ (fun hHeld => ?_)
          clear hK K
          refine norm_ (a' := ?_) ?_ ?_
          rotate_left
          · show Act.put _ (some 7) _ = _
            simp only [Act.put, List.setIfInBounds_toArray, List.set_cons_zero, List.set_cons_succ, i64_w, i32_w]
            rfl
          refine last_ (i := 8) (N := none) #[true, true, true, true, true, true, true, true, true] rfl rfl (by kernel_rfl) (by decide) (fun K hK => ?_)
          rw [hw6]
          clear hw6
          refine skip_ (w1 := w6.setRow wr.heap.size #[.bool false, .slice A1 8 c1, .slice A2 8 c2]) (by rfl) rfl (exec_store_row 24 _ _ rfl wr.heap.size #[.bool false, .slice A1 8 c1, .slice A2 8 c2] (by rfl) (by rfl) 24 _ B7.out.2 (size3 _ _ _) rfl (one3 _ _ _ _ _ _ _)) ?_
          obtain ⟨w7, hw7⟩ : ∃ x, w6.setRow wr.heap.size #[.bool false, .slice A1 8 c1, .slice A2 8 c2] = x := ⟨_, rfl⟩
          have b8 : Below wr.heap.size wr w7 := by rw [← hw7]; exact below_setRow B7.out.1 (Nat.le_refl _) _
          have f8 : w7.heap[wr.heap.size]? = some (.cells #[.bool false, .slice A1 8 c1, .slice A2 8 c2] 24) := by rw [← hw7]; exact setRow_heap _ _ _ _ _ _ B7.out.2
          rw [hw7]
          have B8 := Lib.hid (And.intro b8 f8)
          clear b8 f8 hw7
          refine hK.out _ _ ?_
          clear hK K
          refine done_ (by kernel_rfl) ?_
          have Kw7 := Lib.hid (And.intro (RK.out.below B8.out.1) (And.intro (RV.out.below B8.out.1) (And.intro (keep_row GN.out B8.out.1) B8.out.2)))
          have Bw7 := Lib.hid (below_then' B6.out B8.out.1)
          clear hHeld B7 B8 RK RV GN B6 ck cv
          go_wp2_with fail
          refine (awake_any _).mono ?_; rintro e w8 ⟨rfl, hb⟩
          have Kw8 := Lib.hid (And.intro (Kw7.out.1.below hb) (And.intro (Kw7.out.2.1.below hb) (And.intro (keep_row Kw7.out.2.2.1 hb) (keep_row Kw7.out.2.2.2 hb))))
          have Bw8 := Lib.hid (below_then' Bw7.out hb)
          clear hb Kw7 Bw7
          have x0 : w8.cell? ⟨gN, 0, none⟩ = some (.bool false) := cell_row Kw8.out.2.2.1 rfl
          have x1 : w8.cell? ⟨gN, 1, none⟩ = some (.slice A1 9 c1) := cell_row Kw8.out.2.2.1 rfl
          have x2 : w8.cell? ⟨gN, 2, none⟩ = some (.slice A2 9 c2) := cell_row Kw8.out.2.2.1 rfl
          go_wp2_with fail
          clear x0 x1 x2
          refine (may_b (b := false) false _ _ A1 A2 9 c1 9 c2 _ Kw8.out.1 Kw8.out.2.1 (by decide +kernel)).mono ?_; rintro e w9 ⟨rfl, hb⟩
          have Kw9 := Lib.hid (And.intro (Kw8.out.1.below hb) (And.intro (Kw8.out.2.1.below hb) (And.intro (keep_row Kw8.out.2.2.1 hb) (keep_row Kw8.out.2.2.2 hb))))
          have Bw9 := Lib.hid (below_then' Bw8.out hb)
          clear hb Kw8 Bw8
          have x0 : w9.cell? ⟨wr.heap.size, 0, none⟩ = some (.bool false) := cell_row Kw9.out.2.2.2 rfl
          have x1 : w9.cell? ⟨wr.heap.size, 1, none⟩ = some (.slice A1 8 c1) := cell_row Kw9.out.2.2.2 rfl
          have x2 : w9.cell? ⟨wr.heap.size, 2, none⟩ = some (.slice A2 8 c2) := cell_row Kw9.out.2.2.2 rfl
          go_wp2_with fail
          clear x0 x1 x2
          refine (may_b (b := true) false _ _ A1 A2 8 c1 8 c2 _ (ReadsInt.take_ Kw9.out.1 8 (by omega)) (ReadsInt.take_ Kw9.out.2.1 8 (by omega)) (by decide +kernel)).mono ?_; rintro e w10 ⟨rfl, hb⟩
          have Kw10 := Lib.hid (And.intro (Kw9.out.1.below hb) (And.intro (Kw9.out.2.1.below hb) (And.intro (keep_row Kw9.out.2.2.1 hb) (keep_row Kw9.out.2.2.2 hb))))
          have Bw10 := Lib.hid (below_then' Bw9.out hb)
          clear hb Kw9 Bw9
          clear Kw10
          go_wp2_with fail
          refine (may_b (b := false) true [] [] none none 0 0 0 0 _ (reads0 _) (reads0 _) (by decide +kernel)).mono ?_; rintro e w11 ⟨rfl, hb⟩
          have Bw11 := Lib.hid (below_then' Bw10.out hb)
          clear hb Bw10
          obtain ⟨wa, hwa, bwa, fwa, swa⟩ := made w11 #[.int .u64 1, .int .u64 1] 25
          obtain ⟨wb, hwb, bwb, fwb, swb⟩ := made wa #[.int .u64 1, .int .u64 1] 25
          have RA := Lib.hid (rows64 (xs := [1, 1]) (keep_row fwa bwb) (by decide))
          have RB := Lib.hid (rows64 (xs := [1, 1]) fwb (by decide))
          have Bwb := Lib.hid (below_then' (below_then' Bw11.out bwa) bwb)
          clear bwa fwa swa bwb fwb swb Bw11
          go_wp2_with fail
          clear hwa hwb
          refine (may_b (b := false) false [1, 1] [1, 1] _ _ 2 2 2 2 _ RA.out RB.out (by decide +kernel)).mono ?_; rintro e w12 ⟨rfl, hb⟩
          have Bw12 := Lib.hid (below_then' Bwb.out hb)
          clear hb Bwb
          clear RA RB
          obtain ⟨wc, hwc, bwc, fwc, swc⟩ := made w12 #[.int .u64 1] 25
          obtain ⟨wd, hwd, bwd, fwd, swd⟩ := made wc #[.int .u64 0] 25
          have RA := Lib.hid (rows64 (xs := [1]) (keep_row fwc bwd) (by decide))
          have RB := Lib.hid (rows64 (xs := [0]) fwd (by decide))
          have Bwd := Lib.hid (below_then' (below_then' Bw12.out bwc) bwd)
          clear bwc fwc swc bwd fwd swd Bw12
          go_wp2_with fail
          clear hwc hwd
          refine (may_b (b := false) false [1] [0] _ _ 1 1 1 1 _ RA.out RB.out (by decide +kernel)).mono ?_; rintro e w13 ⟨rfl, hb⟩
          have Bw13 := Lib.hid (below_then' Bwd.out hb)
          clear hb Bwd
          clear RA RB
          obtain ⟨we, hwe, bwe, fwe, swe⟩ := made w13 #[.int .u64 1] 25
          have RA := Lib.hid (rows64 (xs := [1]) fwe (by decide))
          have Bwe := Lib.hid (below_then' Bw13.out bwe)
          clear bwe fwe swe Bw13
          go_wp2_with fail
          clear hwe
          refine (may_b (b := false) false [1] [] _ none 1 1 0 0 _ RA.out (reads0 _) (by decide +kernel)).mono ?_; rintro e w14 ⟨rfl, hb⟩
          have Bw14 := Lib.hid (below_then' Bwe.out hb)
          clear hb Bwe
          go_wp2_with fail
          go_ret
          exact ⟨rfl, Bw14.out⟩
end Go.Proofs.Ytdekplalhfpooaa.Nod
