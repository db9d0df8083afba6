/- Counts: the pages of a list of counts, plain; a byte is put into a page of the call's own. -/
import Derived.Test.YtnnclfaibcedoaaDoorCntD
set_option linter.unusedVariables false
set_option linter.unusedSimpArgs false
namespace Go.Proofs.YtnnclfaibcedoaaDoor.Cnt
open Go Go.RowKit Go.Proofs.YtnnclfaibcedoaaDoorW.PrintWords Go.Proofs.YtnnclfaibcedoaaDoorW.PrintLast Go.Proofs.YtnnclfaibcedoaaDoorW.PrintMore Base Odr Hlp Trm

def np (m : Nat) : Nat := (m + 239) / 240
theorem pages_np (m : Nat) : pagesN (m : Int) = (np m : Int) := by
  unfold pagesN np
  split <;> omega
def page (c : List Int) (k : Nat) : List Int := (List.range 240).map fun j => c.getD (240 * k + j) 0
def pgs (c : List Int) : List (List Int) := (List.range (np c.length)).map (page c)
theorem page_length (c : List Int) (k : Nat) : (page c k).length = 240 := by simp [page]
theorem pgs_length (c : List Int) : (pgs c).length = np c.length := by simp [pgs]
theorem getD_take (c : List Int) (i x : Nat) : (c.take i).getD x 0 = if x < i then c.getD x 0 else 0 := by
  simp only [List.getD_eq_getElem?_getD, List.getElem?_take]
  split <;> rfl
theorem page_get (c : List Int) (k j : Nat) (h : j < (page c k).length) : (page c k)[j] = c.getD (240 * k + j) 0 := by simp [page]
/-- With what stands ahead of i. -/
def up (c : List Int) (i : Nat) : List (List Int) := (List.range (i / 240 + 1)).map (page (c.take i))
theorem up_new (c : List Int) (i : Nat) (hi : i < c.length) (h : i % 240 = 0) : pgs (c.take i) ++ [List.replicate 240 0] = up c i := by
  have hl : (c.take i).length = i := by rw [List.length_take]; omega
  unfold pgs up
  rw [hl, show np i = i / 240 by unfold np; omega, List.range_succ, List.map_append]
  congr 1
  show [_] = [_]
  congr 1
  symm
  apply List.ext_getElem (by rw [page_length, List.length_replicate])
  intro j h1 h2
  rw [page_get, getD_take, if_neg (by omega), List.getElem_replicate]
theorem up_old (c : List Int) (i : Nat) (hi : i < c.length) (h : i % 240 ≠ 0) : pgs (c.take i) = up c i := by
  have hl : (c.take i).length = i := by rw [List.length_take]; omega
  unfold pgs up
  rw [hl, show np i = i / 240 + 1 by unfold np; omega]
theorem up_set (c : List Int) (i : Nat) (hi : i < c.length) : (up c i).set (i / 240) ((page (c.take i) (i / 240)).set (i % 240) (c.getD i 0)) = pgs (c.take (i + 1)) := by
  have hl : (c.take (i + 1)).length = i + 1 := by rw [List.length_take]; omega
  unfold pgs up
  rw [hl, show np (i + 1) = i / 240 + 1 by unfold np; omega]
  apply List.ext_getElem (by simp)
  intro k h1 h2
  have hk : k < i / 240 + 1 := by simpa using h2
  rw [List.getElem_set]
  by_cases hki : i / 240 = k
  · rw [if_pos hki]
    subst hki
    rw [List.getElem_map, List.getElem_range]
    apply List.ext_getElem (by rw [List.length_set, page_length, page_length])
    intro j h3 h4
    have hj : j < 240 := by rw [page_length] at h4; exact h4
    rw [List.getElem_set, page_get, page_get]
    by_cases hji : i % 240 = j
    · rw [if_pos hji, getD_take, if_pos (by omega), show 240 * (i / 240) + j = i by omega]
    · rw [if_neg hji, getD_take, getD_take]
      by_cases hx : 240 * (i / 240) + j < i
      · rw [if_pos hx, if_pos (by omega)]
      · rw [if_neg hx, if_neg (by omega)]
  · rw [if_neg hki, List.getElem_map, List.getElem_map, List.getElem_range]
    apply List.ext_getElem (by rw [page_length, page_length])
    intro j h3 h4
    have hj : j < 240 := by rw [page_length] at h4; exact h4
    rw [page_get, page_get, getD_take, getD_take, if_pos (by omega), if_pos (by omega)]
theorem pgs_nil : pgs [] = [] := rfl
theorem pgs_all (c : List Int) : pgs (c.take c.length) = pgs c := by rw [List.take_length]

def Sep (qs : List Pg) : Prop := ∀ (i j : Nat) (p q : Pg), i ≠ j → qs[i]? = some p → qs[j]? = some q → ∀ b, (sl p).ownBlock = some b → (sl q).ownBlock ≠ some b
theorem sep_nil : Sep [] := fun i j p q _ h => by simp at h
theorem sep_app {W : World} {base : Nat} {v : Value} {qs : List Pg} (h : OwnsP W base v qs) (hs : Sep qs) (p : Pg) (hp : ∀ b, (sl p).ownBlock = some b → W.heap.size ≤ b) : Sep (qs ++ [p]) := by
  have far : ∀ i q, qs[i]? = some q → ∀ b, (sl q).ownBlock = some b → b < W.heap.size := fun i q hq b hb => own_lt (h.pgs q (List.mem_of_getElem? hq)) b hb
  intro i j x y hij hx hy b hb hb'
  rw [List.getElem?_append] at hx hy
  split at hx <;> split at hy
  · exact hs i j x y hij hx hy b hb hb'
  · have := far i x hx b hb
    rw [List.getElem?_singleton] at hy
    split at hy
    · injection hy with hy; subst hy; have := hp b hb'; omega
    · cases hy
  · have := far j y hy b hb'
    rw [List.getElem?_singleton] at hx
    split at hx
    · injection hx with hx; subst hx; have := hp b hb; omega
    · cases hx
  · rw [List.getElem?_singleton] at hx hy
    split at hx
    · split at hy
      · omega
      · cases hy
    · cases hx
theorem OwnsP.store {W : World} {base : Nat} {v : Value} {qs : List Pg} {k : Nat} {p : Pg} (h : OwnsP W base v qs) (hs : Sep qs) (hk : qs[k]? = some p) {g : Nat} (hp : p.ad = some ⟨g, 0, none⟩) (r : Nat) (x : Int) :
    OwnsP (W.setCell ⟨g, r, none⟩ (.int .u8 x)) base v (qs.set k ⟨p.ad, p.n, p.cap, p.bs.set r x⟩) ∧ Sep (qs.set k ⟨p.ad, p.n, p.cap, p.bs.set r x⟩) := by
  have hb : (sl p).ownBlock = some g := by show (Value.slice p.ad p.n p.cap).ownBlock = _; rw [hp]; rfl
  have hkl : k < qs.length := (List.getElem?_eq_some_iff.1 hk).1
  have he : encs sl (qs.set k ⟨p.ad, p.n, p.cap, p.bs.set r x⟩) = encs sl qs := by
    apply List.ext_getElem (by simp [encs])
    intro i h1 h2
    have hi : i < qs.length := by simpa [encs] using h2
    simp only [encs, List.getElem_map, List.getElem_set]
    split
    · rename_i e
      subst e
      have : qs[k] = p := by have := List.getElem?_eq_getElem hkl; rw [hk] at this; injection this with this; exact this.symm
      rw [this]
    · rfl
  have hpo := h.pgs p (List.mem_of_getElem? hk)
  refine ⟨⟨?_, fun q hq => ?_⟩, ?_⟩
  · rw [he, List.length_set]
    refine own_setCell h.row ?_ _
    rcases own_type_ne h.row hpo (by decide) with e | e
    · rw [e]; simp
    · rw [hb] at e; exact fun e' => e e'.symm
  · obtain ⟨j, hj⟩ := List.getElem?_of_mem hq
    rw [List.getElem?_set] at hj
    split at hj
    · rename_i e
      subst e
      injection hj with hj
      subst hj
      have hq2 := (own_store (W := W) (k := .u8) (xs := p.bs) (n := p.n) (cap := p.cap) (g := g) (base := base) (e := 5) (by rw [← hp]; exact hpo) (r : Int) x).1
      rw [← hp] at hq2
      simpa using hq2
    · rename_i e
      refine own_setCell (h.pgs q (List.mem_of_getElem? hj)) ?_ _
      intro e'
      exact hs k j p q e hk hj g hb e'.symm
  · intro i j y z hij hy hz
    rw [List.getElem?_set] at hy hz
    have key : ∀ (i : Nat) (y : Pg), (if k = i then (if k < qs.length then some (⟨p.ad, p.n, p.cap, p.bs.set r x⟩ : Pg) else none) else qs[i]?) = some y → ∃ y', qs[i]? = some y' ∧ sl y = sl y' := by
      intro i y hy
      split at hy
      · rename_i e
        subst e
        injection hy with hy
        subst hy
        exact ⟨p, hk, rfl⟩
      · exact ⟨y, hy, rfl⟩
    obtain ⟨y', hy', ey⟩ := key i y hy
    obtain ⟨z', hz', ez⟩ := key j z hz
    rw [ey, ez]
    exact hs i j y' z' hij hy' hz'
end Go.Proofs.YtnnclfaibcedoaaDoor.Cnt
