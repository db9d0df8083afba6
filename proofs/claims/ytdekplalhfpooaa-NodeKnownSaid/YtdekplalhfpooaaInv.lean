/- A region that draws its order, where several operations that make memory or call may come up in any order: one invariant, and one step for each operation. -/
import Derived.BigQuiet
import Derived.Test.YtdekplalhfpooaaWLast
import Derived.Below
set_option linter.unusedVariables false
set_option linter.unusedSimpArgs false
namespace Go.Proofs.Ytdekplalhfpooaa.Inv
open Go Go.RowKit Go.Proofs.YtdekplalhfpooaaW.PrintLast

/-- A function changed at one place. -/
def upd {α : Type} (f : Nat → α) (i : Nat) (x : α) : Nat → α := fun j => if j = i then x else f j
theorem upd_same {α : Type} (f : Nat → α) (i : Nat) (x : α) : upd f i x i = x := by simp [upd]
theorem upd_ne {α : Type} (f : Nat → α) {i j : Nat} (x : α) (h : j ≠ i) : upd f i x j = f j := by simp [upd, h]

/-- The act behind the operations that have run. -/
def foldA (sel : Nat → Bool) (v : Nat → Value) : List (Nat × Nat × List Nat) → Act → Act
  | [], a => a
  | p :: r, a => foldA sel v r (if sel p.1 = true then a.put (some p.2.1) (v p.1) else a)
/-- What is listed then. -/
def foldM (sel : Nat → Bool) : List (Nat × Nat × List Nat) → Array Bool → Array Bool
  | [], m => m
  | p :: r, m => foldM sel r (if sel p.1 = true then m.setIfInBounds p.1 true else m)

theorem put_size (a : Act) (t : Nat) (u : Value) : (a.put (some t) u).tmps.size = a.tmps.size := by simp [Act.put]
theorem foldA_defers (sel : Nat → Bool) (v : Nat → Value) : ∀ (C : List (Nat × Nat × List Nat)) (a : Act), (foldA sel v C a).defers = a.defers
  | [], a => rfl
  | p :: r, a => by
    unfold foldA
    rw [foldA_defers sel v r]
    split <;> rfl
theorem foldA_size (sel : Nat → Bool) (v : Nat → Value) : ∀ (C : List (Nat × Nat × List Nat)) (a : Act), (foldA sel v C a).tmps.size = a.tmps.size
  | [], a => rfl
  | p :: r, a => by
    unfold foldA
    rw [foldA_size sel v r]
    split
    · exact put_size _ _ _
    · rfl
theorem foldA_congr {sel sel' : Nat → Bool} {v v' : Nat → Value} : ∀ (C : List (Nat × Nat × List Nat)) (a : Act), (∀ p ∈ C, sel p.1 = sel' p.1) → (∀ p ∈ C, sel p.1 = true → v p.1 = v' p.1) → foldA sel v C a = foldA sel' v' C a
  | [], a, _, _ => rfl
  | p :: r, a, h, h' => by
    unfold foldA
    have h1 := h p (List.mem_cons_self ..)
    have h2 := h' p (List.mem_cons_self ..)
    rw [← h1]
    by_cases hs : sel p.1 = true
    · rw [if_pos hs, if_pos hs, h2 hs]
      exact foldA_congr r _ (fun q hq => h q (List.mem_cons_of_mem _ hq)) (fun q hq => h' q (List.mem_cons_of_mem _ hq))
    · rw [if_neg hs, if_neg hs]
      exact foldA_congr r _ (fun q hq => h q (List.mem_cons_of_mem _ hq)) (fun q hq => h' q (List.mem_cons_of_mem _ hq))
theorem foldA_put {sel : Nat → Bool} {v : Nat → Value} {t : Nat} {u : Value} : ∀ (C : List (Nat × Nat × List Nat)) (a : Act), (∀ p ∈ C, p.2.1 ≠ t) → foldA sel v C (a.put (some t) u) = (foldA sel v C a).put (some t) u
  | [], a, _ => rfl
  | p :: r, a, h => by
    have h1 := h p (List.mem_cons_self ..)
    unfold foldA
    by_cases hs : sel p.1 = true
    · rw [if_pos hs, if_pos hs, Act.put_comm a u (v p.1) (x := some t) (y := some p.2.1) (by intro d hd; injection hd with hd; subst hd; simpa using h1)]
      exact foldA_put r _ (fun q hq => h q (List.mem_cons_of_mem _ hq))
    · rw [if_neg hs, if_neg hs]
      exact foldA_put r _ (fun q hq => h q (List.mem_cons_of_mem _ hq))
theorem foldA_step {sel : Nat → Bool} {v : Nat → Value} {i t : Nat} {ds : List Nat} {u : Value} : ∀ (C : List (Nat × Nat × List Nat)) (a : Act), (i, t, ds) ∈ C → (C.map (·.1)).Nodup → (C.map (·.2.1)).Nodup → sel i = false →
    (foldA sel v C a).put (some t) u = foldA (upd sel i true) (upd v i u) C a
  | [], a, h, _, _, _ => by cases h
  | p :: r, a, h, hn, hn2, hi => by
    rw [List.map_cons, List.nodup_cons] at hn hn2
    rcases List.mem_cons.1 h with h | h
    · subst h
      have hr : ∀ q ∈ r, q.1 ≠ i := fun q hq he => hn.1 (List.mem_map.2 ⟨q, hq, he⟩)
      have ht : ∀ q ∈ r, q.2.1 ≠ t := fun q hq he => hn2.1 (List.mem_map.2 ⟨q, hq, he⟩)
      unfold foldA
      simp only
      rw [if_neg (by rw [hi]; simp), if_pos (upd_same _ _ _), upd_same, ← foldA_put r a ht]
      exact foldA_congr r _ (fun q hq => (upd_ne _ _ (hr q hq)).symm) (fun q hq _ => (upd_ne _ _ (hr q hq)).symm)
    · have hne : p.1 ≠ i := fun he => hn.1 (List.mem_map.2 ⟨(i, t, ds), h, he.symm⟩)
      unfold foldA
      rw [foldA_step r _ h hn.2 hn2.2 hi, upd_ne _ _ hne, upd_ne _ _ hne]
theorem foldA_tmp {sel sel' : Nat → Bool} {v : Nat → Value} {t : Nat} : ∀ (C : List (Nat × Nat × List Nat)) (a a' : Act), (∀ p ∈ C, p.2.1 = t → sel p.1 = sel' p.1) → a.tmps[t]? = a'.tmps[t]? → a.tmps.size = a'.tmps.size →
    (foldA sel v C a).tmps[t]? = (foldA sel' v C a').tmps[t]?
  | [], a, a', _, h, _ => h
  | p :: r, a, a', h, h', hs => by
    have h1 := h p (List.mem_cons_self ..)
    unfold foldA
    refine foldA_tmp r _ _ (fun q hq => h q (List.mem_cons_of_mem _ hq)) ?_ ?_
    · by_cases ht : p.2.1 = t
      · rw [h1 ht]
        split
        · simp only [Act.put, ht, Array.getElem?_setIfInBounds, hs]
          simp
        · exact h'
      · have key : ∀ (b : Act), (if sel p.1 = true then b.put (some p.2.1) (v p.1) else b).tmps[t]? = b.tmps[t]? ∧ (if sel' p.1 = true then b.put (some p.2.1) (v p.1) else b).tmps[t]? = b.tmps[t]? := by
          intro b
          constructor <;> (split <;> first | (simp only [Act.put]; exact Array.getElem?_setIfInBounds_ne ht) | rfl)
        rw [(key a).1, (key a').2]; exact h'
    · have key : ∀ (s : Nat → Bool) (b : Act), (if s p.1 = true then b.put (some p.2.1) (v p.1) else b).tmps.size = b.tmps.size := by
        intro s b; split
        · exact put_size _ _ _
        · rfl
      rw [key, key]; exact hs
theorem foldM_step {sel : Nat → Bool} {i t : Nat} {ds : List Nat} : ∀ (C : List (Nat × Nat × List Nat)) (m : Array Bool), (i, t, ds) ∈ C → (foldM sel C m).setIfInBounds i true = foldM (upd sel i true) C m := by
  have push : ∀ (sel : Nat → Bool) (C : List (Nat × Nat × List Nat)) (m : Array Bool), foldM sel C (m.setIfInBounds i true) = (foldM sel C m).setIfInBounds i true := by
    intro sel C
    induction C with
    | nil => intro m; rfl
    | cons p r ih =>
      intro m
      unfold foldM
      by_cases hs : sel p.1 = true
      · rw [if_pos hs, if_pos hs]
        by_cases hpi : p.1 = i
        · rw [hpi, ih, ih]
        · rw [Array.setIfInBounds_comm _ _ (Ne.symm hpi)]; exact ih _
      · rw [if_neg hs, if_neg hs]; exact ih _
  have idem : ∀ m : Array Bool, (m.setIfInBounds i true).setIfInBounds i true = m.setIfInBounds i true := by
    intro m; simp
  have other : ∀ (C : List (Nat × Nat × List Nat)) (m : Array Bool), foldM (upd sel i true) C (m.setIfInBounds i true) = foldM sel C (m.setIfInBounds i true) := by
    intro C
    induction C with
    | nil => intro m; rfl
    | cons p r ih =>
      intro m
      unfold foldM
      by_cases hpi : p.1 = i
      · rw [hpi, if_pos (upd_same _ _ _)]
        split
        · exact ih _
        · rw [idem]; exact ih _
      · rw [upd_ne _ _ hpi]
        split
        · rw [Array.setIfInBounds_comm _ _ (Ne.symm hpi)]; exact ih _
        · exact ih _
  intro C
  induction C with
  | nil => intro m h; cases h
  | cons p r ih =>
    intro m h
    rcases List.mem_cons.1 h with h | h
    · subst h
      show (foldM sel r (if sel i = true then m.setIfInBounds i true else m)).setIfInBounds i true = foldM (upd sel i true) r (if upd sel i true i = true then m.setIfInBounds i true else m)
      rw [if_pos (upd_same _ _ _), other, ← push]
      split
      · rw [idem]
      · rfl
    · by_cases hpi : p.1 = i
      · show (foldM sel r (if sel p.1 = true then m.setIfInBounds p.1 true else m)).setIfInBounds i true = foldM (upd sel i true) r (if upd sel i true p.1 = true then m.setIfInBounds p.1 true else m)
        rw [hpi, if_pos (upd_same _ _ _), other, ← push]
        split
        · rw [idem]
        · rfl
      · show (foldM sel r (if sel p.1 = true then m.setIfInBounds p.1 true else m)).setIfInBounds i true = foldM (upd sel i true) r (if upd sel i true p.1 = true then m.setIfInBounds p.1 true else m)
        rw [upd_ne _ _ hpi]
        exact ih _ h
theorem foldM_get {sel : Nat → Bool} {j : Nat} : ∀ (C : List (Nat × Nat × List Nat)) (m : Array Bool), (foldM sel C m)[j]? = m[j]?.map fun b => b || C.any fun p => p.1 == j && sel p.1
  | [], m => by simp [foldM]
  | p :: r, m => by
    unfold foldM
    rw [foldM_get r, List.any_cons]
    by_cases hs : sel p.1 = true
    · rw [if_pos hs, Array.getElem?_setIfInBounds]
      by_cases hpj : p.1 = j
      · subst hpj
        by_cases hlt : p.1 < m.size
        · rw [if_pos rfl, if_pos hlt, Array.getElem?_eq_getElem hlt]; simp [hs]
        · rw [if_pos rfl, if_neg hlt, Array.getElem?_eq_none (by omega)]; rfl
      · have h0 : (p.1 == j) = false := by simpa using hpj
        rw [if_neg hpj, h0, Bool.false_and, Bool.false_or]
    · have h0 : sel p.1 = false := by simpa using hs
      rw [if_neg hs, h0, Bool.and_false, Bool.false_or]
theorem foldM_size {sel : Nat → Bool} : ∀ (C : List (Nat × Nat × List Nat)) (m : Array Bool), (foldM sel C m).size = m.size
  | [], m => rfl
  | p :: r, m => by
    unfold foldM
    rw [foldM_size r]
    split <;> simp

section
variable {P : Program} {ops : Array Oper} {Q : Exit → Act → World → Prop} {md : Region.Mode} {S : World → Prop} {ds : List Nat}
/-- Does an operation wait for another one? -/
def depB (md : Region.Mode) (ops : Array Oper) (i d : Nat) : Bool := match ops[i]? with | some o => o.after.any (fun e => Region.binds md e && e.on == d) | none => false
/-- Is each listed that an operation waits for? -/
def freeB (md : Region.Mode) (ops : Array Oper) (l : Array Bool) (seen : List Nat) (i : Nat) : Bool := match ops[i]? with | some o => o.after.all (fun e => !Region.binds md e || l.getD e.on false || seen.contains e.on) | none => false
def topoB (md : Region.Mode) (ops : Array Oper) (l : Array Bool) : List Nat → List (Nat × Nat × List Nat) → Bool
  | _, [] => true
  | seen, p :: r => freeB md ops l seen p.1 && topoB md ops l (p.1 :: seen) r
def memB (md : Region.Mode) (ops : Array Oper) (l : Array Bool) (C : List (Nat × Nat × List Nat)) (n : Nat) (p : Nat × Nat × List Nat) : Bool :=
  (l.getD p.1 true == false) && decide (p.2.1 < n) && match ops[p.1]? with
    | some o => (o.dst == some p.2.1) && o.guard.isNone && p.2.2.all (fun d => depB md ops p.1 d && C.any (fun q => q.1 == d)) && (o.looksAt ops).all (fun x => C.all fun q => q.2.1 != x || p.2.2.contains q.1)
    | none => false
/-- What stands behind what is listed, by what each waits for. -/
def cloB (C : List (Nat × Nat × List Nat)) : Nat → List Nat → List Nat
  | 0, s => s
  | k + 1, s => cloB C k (s ++ (C.filter fun q => s.contains q.1).flatMap (·.2.2))
theorem cloB_sel {C : List (Nat × Nat × List Nat)} {sel : Nat → Bool} (hdn : ∀ p ∈ C, sel p.1 = true → p.2.2.all sel = true) : ∀ (k : Nat) (s : List Nat), (∀ d ∈ s, sel d = true) → ∀ d ∈ cloB C k s, sel d = true
  | 0, s, h => h
  | k + 1, s, h => by
    unfold cloB
    refine cloB_sel hdn k _ fun d hd => ?_
    rcases List.mem_append.1 hd with hd | hd
    · exact h d hd
    · obtain ⟨q, hq, hdq⟩ := List.mem_flatMap.1 hd
      obtain ⟨hqC, hqs⟩ := List.mem_filter.1 hq
      exact List.all_eq_true.1 (hdn q hqC (h q.1 (by simpa using hqs))) d hdq
def outB (md : Region.Mode) (ops : Array Oper) (l : Array Bool) (C : List (Nat × Nat × List Nat)) (j : Nat) : Bool :=
  l.getD j false || C.any (fun q => q.1 == j) || C.all (fun q => (cloB C C.length ((C.filter fun q => depB md ops j q.1).map (·.1))).contains q.1) || match ops[j]? with | some o => o.after.any (fun e => Region.binds md e && !(C.any fun q => q.1 == e.on) && !(l.getD e.on false)) | none => true
def invB (md : Region.Mode) (ops : Array Oper) (l l' : Array Bool) (C : List (Nat × Nat × List Nat)) (n : Nat) : Bool :=
  Region.noSelect ops && (l.size == ops.size) && decide ((C.map (·.1)).Nodup) && decide ((C.map (·.2.1)).Nodup) && (foldM (fun _ => true) C l == l') && C.all (memB md ops l C n) && topoB md ops l [] C && (List.range ops.size).all (outB md ops l C)

/-- One operation's step: what it needs stands in its slots. -/
def Step1 (P : Program) (ops : Array Oper) (Q : Exit → Act → World → Prop) (C : List (Nat × Nat × List Nat)) (a0 : Act) (I : (Nat → Bool) → (Nat → Value) → World → Prop) (p : Nat × Nat × List Nat) : Prop :=
  ∃ oi, ops[p.1]? = some oi ∧ ∀ (sel : Nat → Bool) (v : Nat → Value) (w : World), I sel v w → sel p.1 = false → p.2.2.all sel = true → ∀ a1, foldA (fun j => p.2.2.contains j) v C a0 = a1 →
    ∀ K : Act → World → Prop, Shut (∀ u w', I (upd sel p.1 true) (upd v p.1 u) w' → K (a1.put (some p.2.1) u) w') →
      if Region.wanted oi (yielded ops a1.tmps) = true then Oper.wp P oi a1 w K Q else K (a1.put (some p.2.1) undef) w
def Steps (P : Program) (ops : Array Oper) (Q : Exit → Act → World → Prop) (C : List (Nat × Nat × List Nat)) (a0 : Act) (I : (Nat → Bool) → (Nat → Value) → World → Prop) (D : List (Nat × Nat × List Nat)) : Prop := ∀ p ∈ D, Step1 P ops Q C a0 I p
theorem steps_nil {C : List (Nat × Nat × List Nat)} {a0 : Act} {I : (Nat → Bool) → (Nat → Value) → World → Prop} : Steps P ops Q C a0 I [] := fun _ h => by cases h
theorem steps_cons {C D : List (Nat × Nat × List Nat)} {a0 : Act} {I : (Nat → Bool) → (Nat → Value) → World → Prop} {i t : Nat} {d : List Nat} {oi : Oper} (hi : ops[i]? = some oi)
    (h : ∀ (sel : Nat → Bool) (v : Nat → Value) (w : World), I sel v w → sel i = false → d.all sel = true → ∀ a1, foldA (fun j => d.contains j) v C a0 = a1 →
      ∀ K : Act → World → Prop, Shut (∀ u w', I (upd sel i true) (upd v i u) w' → K (a1.put (some t) u) w') →
        if Region.wanted oi (yielded ops a1.tmps) = true then Oper.wp P oi a1 w K Q else K (a1.put (some t) undef) w)
    (hr : Steps P ops Q C a0 I D) : Steps P ops Q C a0 I ((i, t, d) :: D) := by
  intro p hp
  rcases List.mem_cons.1 hp with rfl | hp
  · exact ⟨oi, hi, h⟩
  · exact hr p hp
theorem foldA_panic (hQ : ∀ c a t u w, Q (.panic c) (Act.put a (some t) u) w ↔ Q (.panic c) a w) {sel : Nat → Bool} {v : Nat → Value} {c : List PanicEntry} {w : World} : ∀ (C : List (Nat × Nat × List Nat)) (a : Act), Q (.panic c) (foldA sel v C a) w ↔ Q (.panic c) a w
  | [], a => Iff.rfl
  | p :: r, a => by
    unfold foldA
    rw [foldA_panic hQ r]
    split
    · exact hQ _ _ _ _ _
    · exact Iff.rfl
theorem put_inj {a : Act} {t : Nat} {u u' : Value} (ht : t < a.tmps.size) (h : a.put (some t) u = a.put (some t) u') : u = u' := by
  have h1 := congrArg (fun b : Act => b.tmps[t]?) h
  simp only [Act.put, Array.getElem?_setIfInBounds, ht, if_true] at h1
  injection h1

theorem step_op (hQ : ∀ c a t u w, Q (.panic c) (Act.put a (some t) u) w ↔ Q (.panic c) a w) {C : List (Nat × Nat × List Nat)} {a0 : Act} {I : (Nat → Bool) → (Nat → Value) → World → Prop} {l : Array Bool} {sel : Nat → Bool} {v : Nat → Value} {w : World} {p : Nat × Nat × List Nat} {K' : Act → World → Prop}
    (hsel : ∀ cs b (j : Nat) (o : Oper), ops[j]? = some o → o.op ≠ .select cs b) (hm : memB md ops l C a0.tmps.size p = true) (hst : Step1 P ops Q C a0 I p) (hI : I sel v w) (hs : sel p.1 = false) (hd : p.2.2.all sel = true)
    (h : ∀ u w', I (upd sel p.1 true) (upd v p.1 u) w' → K' ((foldA sel v C a0).put (some p.2.1) u) w') : wpOp P ops Q p.1 K' (foldA sel v C a0) w := by
  obtain ⟨oi, hoi, hstep⟩ := hst
  unfold memB at hm
  rw [hoi] at hm
  simp only [Bool.and_eq_true, beq_iff_eq, decide_eq_true_eq] at hm
  obtain ⟨⟨-, htn⟩, ⟨⟨hdst, hguard⟩, hdeps⟩, hlooks⟩ := hm
  have hg : oi.guard = none := by simpa using hguard
  have hwant : ∀ x, Region.wanted oi x = true := by intro x; unfold Region.wanted; rw [hg]
  have hsl : ∀ cs b, oi.op ≠ .select cs b := fun cs b => hsel cs b _ _ hoi
  have hslot : ∀ t, t ∈ oi.looksAt ops → (foldA sel v C a0).tmps[t]? = (foldA (fun j => p.2.2.contains j) v C a0).tmps[t]? := by
    intro t ht
    refine foldA_tmp C a0 a0 (fun q hq hqt => ?_) rfl rfl
    have h1 := List.all_eq_true.1 (List.all_eq_true.1 hlooks t ht) q hq
    simp only [Bool.or_eq_true, bne_iff_ne, ne_eq] at h1
    rcases h1 with h1 | h1
    · exact absurd hqt h1
    · show sel q.1 = p.2.2.contains q.1
      rw [h1]
      exact List.all_eq_true.1 hd q.1 (by simpa using h1)
  have hx : execOp (foldA sel v C a0).eval oi = execOp (foldA (fun j => p.2.2.contains j) v C a0).eval oi := by
    refine execOp_congr oi hsl fun x hx => ?_
    cases x with
    | tmp t =>
      have ht : t ∈ oi.looksAt ops := by
        unfold Oper.looksAt
        exact List.mem_append_left _ (List.mem_filterMap.2 ⟨.tmp t, by simpa using hx, rfl⟩)
      simp only [Act.eval, Array.getD_eq_getD_getElem?, hslot t ht]
    | _ => rfl
  have hJ := hstep sel v w hI hs hd _ rfl (fun a' w' => ∃ u, a' = (foldA (fun j => p.2.2.contains j) v C a0).put (some p.2.1) u ∧ I (upd sel p.1 true) (upd v p.1 u) w') (fun u w' hh => ⟨u, rfl, hh⟩)
  rw [if_pos (hwant _)] at hJ
  have hsz : p.2.1 < (foldA (fun j => p.2.2.contains j) v C a0).tmps.size := by rw [foldA_size]; exact htn
  unfold wpOp
  simp only [hoi, hwant, if_true]
  left
  unfold Oper.wp at hJ ⊢
  rw [hx]
  generalize (execOp (foldA (fun j => p.2.2.contains j) v C a0).eval oi).run P w = r at hJ ⊢
  cases r with
  | ok n w' =>
    cases n <;> simp only [Oper.upon, hdst] at hJ ⊢
    case value u =>
      obtain ⟨u', he, hh⟩ := hJ
      have := put_inj hsz he
      subst this
      exact h _ _ hh
    case skip =>
      obtain ⟨u', he, hh⟩ := hJ
      have := put_inj hsz he
      subst this
      exact h _ _ hh
    case defer d =>
      obtain ⟨u', he, hh⟩ := hJ
      have h1 := congrArg (fun b : Act => b.defers.length) he
      simp [Act.put] at h1
    case enter f args =>
      refine Calls.mono hJ fun e w'' he => ?_
      cases e with
      | returned u =>
        obtain ⟨u', he, hh⟩ := he
        have := put_inj hsz he
        subst this
        exact h _ _ hh
      | panicked c => exact (foldA_panic hQ C a0).2 ((foldA_panic hQ C a0).1 he)
      | outgrown => exact he
    case row row args =>
      refine Rows.mono hJ fun u w'' he => ?_
      obtain ⟨u', he, hh⟩ := he
      have := put_inj hsz he
      subst this
      exact h _ _ hh
  | halt x w' =>
    cases x <;> simp only [Oper.upon] at hJ ⊢
    case panic u => exact (foldA_panic hQ C a0).2 ((foldA_panic hQ C a0).1 hJ)
theorem topo_find {l : Array Bool} {sel : Nat → Bool} : ∀ (C : List (Nat × Nat × List Nat)) (seen : List Nat), topoB md ops l seen C = true → (∀ d ∈ seen, sel d = true) → (∃ p ∈ C, sel p.1 = false) →
    ∃ p ∈ C, sel p.1 = false ∧ ∃ sn : List Nat, (∀ d ∈ sn, sel d = true ∧ (d ∈ seen ∨ ∃ q ∈ C, q.1 = d)) ∧ freeB md ops l sn p.1 = true
  | [], _, _, _, h => by obtain ⟨p, hp, _⟩ := h; cases hp
  | p :: r, seen, ht, hs, h => by
    unfold topoB at ht
    rw [Bool.and_eq_true] at ht
    by_cases hp : sel p.1 = true
    · obtain ⟨q, hq, hq2⟩ := h
      have hqr : q ∈ r := by
        rcases List.mem_cons.1 hq with rfl | hq
        · rw [hp] at hq2; cases hq2
        · exact hq
      obtain ⟨z, hz, hz2, sn, hsn, hf⟩ := topo_find r (p.1 :: seen) ht.2 (fun d hd => by
        rcases List.mem_cons.1 hd with rfl | hd
        · exact hp
        · exact hs d hd) ⟨q, hqr, hq2⟩
      refine ⟨z, List.mem_cons_of_mem _ hz, hz2, sn, fun d hd => ?_, hf⟩
      obtain ⟨h1, h2⟩ := hsn d hd
      refine ⟨h1, ?_⟩
      rcases h2 with h2 | ⟨q', hq', e⟩
      · rcases List.mem_cons.1 h2 with rfl | h2
        · exact .inr ⟨p, List.mem_cons_self .., rfl⟩
        · exact .inl h2
      · exact .inr ⟨q', List.mem_cons_of_mem _ hq', e⟩
    · exact ⟨p, List.mem_cons_self .., by simpa using hp, seen, fun d hd => ⟨hs d hd, .inl hd⟩, ht.1⟩
/-- The rule: an invariant over the operations C, whatever order they come up in. -/
theorem inv_ {fuel' : Nat} {l : Array Bool} {a0 : Act} {w0 : World} (l' : Array Bool) (C : List (Nat × Nat × List Nat)) (I : (Nat → Bool) → (Nat → Value) → World → Prop) (hc : invB md ops l l' C a0.tmps.size = true)
    (hQ : ∀ c a t u w, Q (.panic c) (Act.put a (some t) u) w ↔ Q (.panic c) a w) (hIS : ∀ sel v w, I sel v w → S w) (h0 : I (fun _ => false) (fun _ => undef) w0) (hsteps : Steps P ops Q C a0 I C)
    (hend : ∀ sel v w', (∀ p ∈ C, sel p.1 = true) → I sel v w' → wpAnyLast P md ops Q S ds fuel' l' (foldA (fun _ => true) v C a0) w') {fuel : Nat} (hf : fuel = C.length + fuel') : wpAnyLast P md ops Q S ds fuel l a0 w0 := by
  subst hf
  simp only [invB, Bool.and_eq_true, beq_iff_eq, decide_eq_true_eq] at hc
  obtain ⟨⟨⟨⟨⟨⟨⟨hnosel, hlsz⟩, hn1⟩, hn2⟩, hl'⟩, hmem⟩, htopo⟩, hout⟩ := hc
  have hselp : ∀ cs b (j : Nat) (o : Oper), ops[j]? = some o → o.op ≠ .select cs b := fun cs b j o ho => Region.noSelect_spec hnosel j o cs b ho
  have getm : ∀ (sel : Nat → Bool) (j : Nat) (b : Bool), j < ops.size → (foldM sel C l).getD j b = (l.getD j false || C.any fun p => p.1 == j && sel p.1) := by
    intro sel j b hj
    rw [Array.getD_eq_getD_getElem?, foldM_get, Array.getD_eq_getD_getElem?, Array.getElem?_eq_getElem (by omega)]
    rfl
  have lFalse : ∀ p ∈ C, l.getD p.1 true = false ∧ p.1 < ops.size := by
    intro p hp
    have h1 := List.all_eq_true.1 hmem p hp
    unfold memB at h1
    simp only [Bool.and_eq_true, beq_iff_eq, decide_eq_true_eq] at h1
    refine ⟨h1.1.1, ?_⟩
    cases ho : ops[p.1]? with
    | none => rw [ho] at h1; simp at h1
    | some o => exact (Array.getElem?_eq_some_iff.1 ho).1
  have main : ∀ (k : Nat) (sel : Nat → Bool) (v : Nat → Value) (w : World), (C.filter fun p => !sel p.1).length = k → (∀ p ∈ C, sel p.1 = true → p.2.2.all sel = true) → I sel v w → wpAnyLast P md ops Q S ds (k + fuel') (foldM sel C l) (foldA sel v C a0) w := by
    intro k
    induction k with
    | zero =>
      intro sel v w hk hdn hI
      have hall : ∀ p ∈ C, sel p.1 = true := by
        intro p hp
        have h1 := List.filter_eq_nil_iff.1 (List.eq_nil_of_length_eq_zero hk) p hp
        simpa using h1
      have e1 : foldM sel C l = l' := by
        rw [← hl']
        have : ∀ (D : List (Nat × Nat × List Nat)) (m : Array Bool), (∀ p ∈ D, sel p.1 = true) → foldM sel D m = foldM (fun _ => true) D m := by
          intro D
          induction D with
          | nil => intro m _; rfl
          | cons p r ih =>
            intro m hD
            unfold foldM
            rw [if_pos (hD p (List.mem_cons_self ..)), if_pos rfl]
            exact ih _ (fun q hq => hD q (List.mem_cons_of_mem _ hq))
        exact this C l hall
      rw [e1, Nat.zero_add, foldA_congr (v' := v) C a0 (sel' := fun _ => true) hall (fun _ _ _ => rfl)]
      exact hend sel v w hall hI
    | succ k ih =>
      intro sel v w hk hdn hI
      have hex : ∃ p ∈ C, sel p.1 = false := by
        have : 0 < (C.filter fun p => !sel p.1).length := by omega
        obtain ⟨p, hp⟩ := List.exists_mem_of_length_pos this
        rw [List.mem_filter] at hp
        exact ⟨p, hp.1, by simpa using hp.2⟩
      rw [show k + 1 + fuel' = (k + fuel') + 1 by omega]
      refine ⟨fun hr => ?_, fun i hi => ?_⟩
      · exfalso
        obtain ⟨p, hp, hps, sn, hsn, hfree⟩ := topo_find C [] htopo (fun d hd => by cases hd) hex
        have hpr : p.1 ∈ Region.ready md ops (foldM sel C l) := by
          refine mem_ready.2 ⟨?_, ?_⟩
          · rw [getm sel _ _ (lFalse p hp).2]
            have h1 : l.getD p.1 false = false := by
              have := (lFalse p hp).1
              rw [Array.getD_eq_getD_getElem?, Array.getElem?_eq_getElem (by rw [hlsz]; exact (lFalse p hp).2)] at this ⊢
              exact this
            rw [h1, Bool.false_or]
            rw [List.any_eq_false]
            intro q hq
            by_cases he : q.1 = p.1
            · rw [he, hps]; simp
            · simp [he]
          · unfold freeB at hfree
            cases ho : ops[p.1]? with
            | none => rw [ho] at hfree; cases hfree
            | some o =>
              rw [ho] at hfree
              refine ⟨o, rfl, fun e he hb => ?_⟩
              have h1 := Array.all_eq_true_iff_forall_mem.1 hfree e he
              rw [hb] at h1
              simp only [Bool.not_true, Bool.false_or, Bool.or_eq_true] at h1
              rcases h1 with h1 | h1
              · have hlt : e.on < ops.size := by
                  rcases Nat.lt_or_ge e.on l.size with h2 | h2
                  · omega
                  · rw [Array.getD_eq_getD_getElem?, Array.getElem?_eq_none h2] at h1; cases h1
                rw [getm sel _ _ hlt, h1]; rfl
              · obtain ⟨h2, h3⟩ := hsn e.on (by simpa using h1)
                rcases h3 with h3 | ⟨q, hq, hqe⟩
                · cases h3
                · rw [getm sel _ _ (hqe ▸ (lFalse q hq).2)]
                  rw [Bool.or_eq_true]
                  right
                  exact List.any_eq_true.2 ⟨q, hq, by rw [hqe]; simp [h2]⟩
        rw [hr] at hpr
        cases hpr
      · obtain ⟨hun, oi, hoi, hdeps⟩ := mem_ready.1 hi
        have hlt : i < ops.size := (Array.getElem?_eq_some_iff.1 hoi).1
        rw [getm sel _ _ hlt, Bool.or_eq_false_iff] at hun
        have hin : ∃ p ∈ C, p.1 = i := by
          have h1 := List.all_eq_true.1 hout i (List.mem_range.2 hlt)
          unfold outB at h1
          rw [hun.1, hoi] at h1
          simp only [Bool.false_or, Bool.or_eq_true] at h1
          rcases h1 with (h1 | h1) | h1
          · obtain ⟨p, hp, he⟩ := List.any_eq_true.1 h1
            exact ⟨p, hp, by simpa using he⟩
          · exfalso
            obtain ⟨p, hp, hps⟩ := hex
            have h2 := List.all_eq_true.1 h1 p hp
            have h9 := cloB_sel hdn C.length ((C.filter fun q => depB md ops i q.1).map (·.1)) (fun d hd => by
              obtain ⟨z, hz, hzd⟩ := List.mem_map.1 hd
              obtain ⟨hzC, hzb⟩ := List.mem_filter.1 hz
              subst hzd
              unfold depB at hzb
              rw [hoi] at hzb
              obtain ⟨e, he, h3⟩ := Array.any_eq_true'.1 hzb
              simp only [Bool.and_eq_true, beq_iff_eq] at h3
              have h4 := hdeps e he h3.1
              rw [h3.2, getm sel _ _ (lFalse z hzC).2, Bool.or_eq_true] at h4
              rcases h4 with h4 | h4
              · have := (lFalse z hzC).1
                rw [Array.getD_eq_getD_getElem?, Array.getElem?_eq_getElem (by rw [hlsz]; exact (lFalse z hzC).2)] at this h4
                simp only [Option.getD_some] at this h4
                rw [this] at h4; cases h4
              · obtain ⟨q, hq, h5⟩ := List.any_eq_true.1 h4
                simp only [Bool.and_eq_true, beq_iff_eq] at h5
                rw [← h5.1]; exact h5.2) p.1 (by simpa using h2)
            rw [hps] at h9
            cases h9
          · exfalso
            obtain ⟨e, he, h3⟩ := Array.any_eq_true'.1 h1
            simp only [Bool.and_eq_true, Bool.not_eq_true'] at h3
            have h4 := hdeps e he h3.1.1
            have hlt2 : e.on < ops.size := by
              rcases Nat.lt_or_ge e.on (foldM sel C l).size with h5 | h5
              · rw [foldM_size] at h5; omega
              · rw [Array.getD_eq_getD_getElem?, Array.getElem?_eq_none h5] at h4; cases h4
            rw [getm sel _ _ hlt2, h3.2, Bool.false_or] at h4
            obtain ⟨q, hq, h5⟩ := List.any_eq_true.1 h4
            simp only [Bool.and_eq_true] at h5
            have h6 := List.any_eq_false.1 h3.1.2 q hq
            rw [h5.1] at h6
            exact h6 rfl
        obtain ⟨p, hp, rfl⟩ := hin
        have hps : sel p.1 = false := by
          cases hs : sel p.1 with
          | false => rfl
          | true =>
            have := List.any_eq_false.1 hun.2 p hp
            rw [hs] at this
            simp at this
        have hm := List.all_eq_true.1 hmem p hp
        have hd : p.2.2.all sel = true := by
          have h1 := hm
          unfold memB at h1
          rw [hoi] at h1
          simp only [Bool.and_eq_true, beq_iff_eq, decide_eq_true_eq] at h1
          obtain ⟨⟨-, -⟩, ⟨⟨-, -⟩, hdd⟩, -⟩ := h1
          refine List.all_eq_true.2 fun d hdm => ?_
          have h2 := List.all_eq_true.1 hdd d hdm
          rw [Bool.and_eq_true] at h2
          obtain ⟨h3, h4⟩ := h2
          unfold depB at h3
          rw [hoi] at h3
          obtain ⟨e, he, h5⟩ := Array.any_eq_true'.1 h3
          simp only [Bool.and_eq_true, beq_iff_eq] at h5
          obtain ⟨q, hq, h6⟩ := List.any_eq_true.1 h4
          simp only [beq_iff_eq] at h6
          have h7 := hdeps e he h5.1
          rw [h5.2, ← h6, getm sel _ _ (lFalse q hq).2, Bool.or_eq_true] at h7
          rcases h7 with h7 | h7
          · have := (lFalse q hq).1
            rw [Array.getD_eq_getD_getElem?, Array.getElem?_eq_getElem (by rw [hlsz]; exact (lFalse q hq).2)] at this h7
            simp only [Option.getD_some] at this h7
            rw [this] at h7; cases h7
          · obtain ⟨z, hz, h8⟩ := List.any_eq_true.1 h7
            simp only [Bool.and_eq_true, beq_iff_eq] at h8
            rw [← h6, ← h8.1]; exact h8.2
        obtain ⟨i, t, dd⟩ := p
        refine step_op hQ hselp hm (hsteps _ hp) hI hps hd fun u w' hI' => ⟨fun _ _ => hIS _ _ _ hI', ?_⟩
        rw [foldA_step C a0 hp hn1 hn2 hps, foldM_step C l hp]
        refine ih _ _ _ ?_ (fun p hp' hps' => List.all_eq_true.2 fun d hdm => ?_) hI'
        rotate_left
        · by_cases hdi : d = i
          · subst hdi; exact upd_same _ _ _
          · rw [upd_ne _ _ hdi]
            by_cases hpi : p.1 = i
            · have hpe : p = (i, t, dd) := by
                have key : ∀ (D : List (Nat × Nat × List Nat)), (D.map (·.1)).Nodup → p ∈ D → (i, t, dd) ∈ D → p = (i, t, dd) := by
                  intro D
                  induction D with
                  | nil => intro _ h; cases h
                  | cons z r ihz =>
                    intro hn h h'
                    rw [List.map_cons, List.nodup_cons] at hn
                    rcases List.mem_cons.1 h with h | h
                    · rcases List.mem_cons.1 h' with h' | h'
                      · rw [h, h']
                      · exact absurd (List.mem_map.2 ⟨_, h', by rw [← h, hpi]⟩) hn.1
                    · rcases List.mem_cons.1 h' with h' | h'
                      · exact absurd (List.mem_map.2 ⟨_, h, by rw [← h', hpi]⟩) hn.1
                      · exact ihz hn.2 h h'
                exact key C hn1 hp' hp
              subst hpe
              exact List.all_eq_true.1 hd d hdm
            · rw [upd_ne _ _ hpi] at hps'
              exact List.all_eq_true.1 (hdn p hp' hps') d hdm
        have count : ∀ (D : List (Nat × Nat × List Nat)), (i, t, dd) ∈ D → (D.map (·.1)).Nodup → (D.filter fun p => !sel p.1).length = (D.filter fun p => !(upd sel i true) p.1).length + 1 := by
          intro D
          induction D with
          | nil => intro h; cases h
          | cons q r ihr =>
            intro h hn
            rw [List.map_cons, List.nodup_cons] at hn
            rcases List.mem_cons.1 h with h | h
            · subst h
              have e1 : (r.filter fun p => !(upd sel i true) p.1) = r.filter fun p => !sel p.1 := by
                refine List.filter_congr fun z hz => ?_
                rw [upd_ne _ _ (fun he => hn.1 (List.mem_map.2 ⟨z, hz, he⟩))]
              have hps' : sel i = false := hps
              simp only [List.filter_cons, hps', upd_same, Bool.not_false, Bool.not_true, if_true, List.length_cons, e1]
              simp
            · have hqi : q.1 ≠ i := fun he => hn.1 (List.mem_map.2 ⟨_, h, he.symm⟩)
              have := ihr h hn.2
              simp only [List.filter_cons, upd_ne _ _ hqi]
              split
              · rw [List.length_cons, List.length_cons, this]
              · exact this
        have := count C hp hn1
        omega
  have h1 := main C.length (fun _ => false) (fun _ => undef) w0 (by simp) (fun _ _ h => by cases h) h0
  have e0 : foldM (fun _ => false) C l = l := by
    have : ∀ (D : List (Nat × Nat × List Nat)) (m : Array Bool), foldM (fun _ => false) D m = m := by
      intro D
      induction D with
      | nil => intro m; rfl
      | cons p r ih => intro m; unfold foldM; rw [if_neg (by simp)]; exact ih m
    exact this C l
  have e1 : foldA (fun _ => false) (fun _ => undef) C a0 = a0 := by
    have : ∀ (D : List (Nat × Nat × List Nat)) (m : Act), foldA (fun _ => false) (fun _ => undef) D m = m := by
      intro D
      induction D with
      | nil => intro m; rfl
      | cons p r ih => intro m; unfold foldA; rw [if_neg (by simp)]; exact ih m
    exact this C a0
  rw [e0, e1] at h1
  exact h1
end
end Go.Proofs.Ytdekplalhfpooaa.Inv
