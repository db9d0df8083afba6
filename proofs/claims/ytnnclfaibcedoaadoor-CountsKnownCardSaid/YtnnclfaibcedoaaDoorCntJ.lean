/- Counts: slices.Chunk: what its iterator hands to whatever loop (every input). -/
import Derived.RangeFuncBox
import Derived.RangeFuncNested
import Derived.RangeFuncBound
import Derived.RangeFuncCalls
import Derived.RangeFuncLeaves
import Derived.Shelf.Abstract
import Derived.Shelf.RegionOpen
import Derived.WalkKit
import Derived.OwnWalkIn
import Derived.TacticsInMore
import Derived.LoopNIn
import Derived.LoopIn
import Derived.RegionIn
import Derived.BigRegionIn
import Derived.Maps.AppendAt
import Derived.Test.YtnnclfaibcedoaaDoorCntI
set_option linter.unusedVariables false
set_option linter.unusedSimpArgs false
namespace Go.Proofs.YtnnclfaibcedoaaDoor.Cnt
open Go Go.RowKit Go.Shelf Go.Proofs.YtnnclfaibcedoaaDoorW.PrintWords Go.Proofs.YtnnclfaibcedoaaDoorW.PrintLast Go.Proofs.YtnnclfaibcedoaaDoorW.PrintMore Base Odr Hlp Trm
attribute [local go_sem] Oper.semAt_some

def chunk (cs : List Int) (k : Nat) : List Int := (cs.drop (240 * k)).take 240
theorem pad_chunk (cs : List Int) (k : Nat) (hk : 240 * k < cs.length) : pad (chunk cs k) = page cs k := by
  have e : chunk cs k = (cs.take (min cs.length (240 * (k + 1)))).drop (240 * k) := by
    unfold chunk
    apply List.ext_getElem
    · rw [List.length_take, List.length_drop, List.length_drop, List.length_take]; omega
    · intro i h1 h2
      rw [List.getElem_take, List.getElem_drop, List.getElem_drop, List.getElem_take]
  rw [e, pad_page cs k hk _ rfl]
/-- A chunk that is handed over: it reads so in the world in which the loop begins. -/
abbrev Ck (w : World) := { p : Pg // p.n ≤ 240 ∧ ReadsInt w .u8 p.ad p.n p.bs }
def Ck.bs {w : World} (x : Ck w) : List Int := x.1.bs
set_option maxHeartbeats 1600000 in
theorem chunk_in (F : Fence) (n : Nat) (h19 : F.fn 19) (hro : F.round = none) (a : Option Addr) (len cap : Nat) (w : World) :
    CallsIn F n Tryd.prog 19 #[.slice a len cap, .int .i64 240] w fun e w' => e = .returned (.func (.func 28) #[] #[.pointer (some ⟨w.heap.size, 0, none⟩), .pointer (some ⟨w.heap.size + 1, 0, none⟩)]) ∧ w' = (w.alloc (.cells #[.slice a len cap] 24)).alloc (.cells #[.int .i64 240] 3) := by
  refine callsIn_of_wp Tryd.func19 rfl h19 ?_ hro
  simp only [Tryd.ntmps19, List.size_toArray, List.length_cons, List.length_nil, Nat.reduceAdd, Nat.reduceSub, Array.replicate_succ, Array.replicate_zero, List.push_toArray, List.append_toArray, List.nil_append, List.cons_append]
  gi_wp2
  go_ret
  exact ⟨rfl, rfl⟩

theorem cut_three (ad : Addr) (n c lo hi : Nat) (h1 : lo < hi) (h2 : hi ≤ c) :
    ∀ W : World, (Instr.slice 24 (.slice (some ad) n c) (some (.int .i64 (lo : Int))) (some (.int .i64 (hi : Int))) (some (.int .i64 (hi : Int)))).run Tryd.prog W = .ok (.slice (some (ad.add lo)) (hi - lo) (hi - lo)) W := by
  intro W
  have hel : Tryd.prog.elem 24 = 5 := by simp [Program.elem, Tryd.underlying24]
  have hu : Tryd.prog.underlying 24 = some (.slice (Tryd.prog.elem 24)) := by rw [hel]; exact Tryd.underlying24
  obtain ⟨i0, hi0, hs0⟩ := info8'
  rw [run_slice_lhm W 24 (some ad) n c hu .i64 .i64 .i64 (lo : Int) (hi : Int) (hi : Int) (by omega) (by omega) (by omega) (by omega), hel]
  simp [sizeOf, typeInfo, hi0, hs0, sliced, Result.andThen, Nat.ne_of_gt h1]
/-- What a round keeps: all that lay below n₀, and the iterator's two boxes. -/
def KpC (n₀ Bs Bn : Nat) (W W' : World) : Prop := Below n₀ W W' ∧ W'.heap[Bs]? = W.heap[Bs]? ∧ W'.heap[Bn]? = W.heap[Bn]?
theorem KpC.trans {n₀ Bs Bn : Nat} {A B C : World} (h : KpC n₀ Bs Bn A B) (k : KpC n₀ Bs Bn B C) : KpC n₀ Bs Bn A C := ⟨h.1.trans k.1, k.2.1.trans h.2.1, k.2.2.trans h.2.2⟩
theorem KpC.cells {n₀ Bs Bn : Nat} {A B : World} (h : KpC n₀ Bs Bn A B) : B.cell? ⟨Bs, 0, none⟩ = A.cell? ⟨Bs, 0, none⟩ ∧ B.cell? ⟨Bn, 0, none⟩ = A.cell? ⟨Bn, 0, none⟩ := ⟨World.cell?_of_block h.2.1, World.cell?_of_block h.2.2⟩
set_option maxRecDepth 100000 in
set_option maxHeartbeats 3200000 in
theorem chunk1_in (m : Nat) (hm : 1 ≤ m) (l n₀ Bs Bn : Nat) (w : World) (ad : Addr) (n c : Nat) (cs : List Int) (HR : ReadsInt w .u8 (some ad) n cs) (hnc : n ≤ c) (hn : n ≤ 140737488351232) (J Jx : List (Ck w) → World → Prop) (hJd : ∀ s V, J s V → J s V.drew)
    (hY : ∀ pre x W, J pre W → pre.length < np n → YieldAt Fence.wide (m - 1) Tryd.prog l #[.slice x.1.ad x.1.n x.1.n] W fun e W' =>
      (e = .returned (.bool true) ∧ J (pre ++ [x]) W' ∧ KpC n₀ Bs Bn W W') ∨ (e = .returned (.bool false) ∧ Jx (pre ++ [x]) W'))
    (W : World) (hBs : W.cell? ⟨Bs, 0, none⟩ = some (.slice (some ad) n c)) (hBn : W.cell? ⟨Bn, 0, none⟩ = some (.int .i64 240)) (h0 : J [] W) :
    CallsIn Fence.wide m Tryd.prog 28 #[.func (.yield l) #[] #[], .pointer (some ⟨Bs, 0, none⟩), .pointer (some ⟨Bn, 0, none⟩)] W fun e W' => (∃ v, e = .returned v) ∧
      ((∃ ys : List (Ck w), ys.map Ck.bs = (List.range (np n)).map (chunk cs) ∧ J ys W') ∨ (∃ pre : List (Ck w), True ∧ Jx pre W')) := by
  have R0 := Lib.hid HR
  have HN := Lib.hid hn
  have HC := Lib.hid hnc
  clear HR hn hnc
  refine callsIn_of_wp Tryd.func28 rfl trivial ?_ rfl
  simp only [Tryd.ntmps28, List.size_toArray, List.length_cons, List.length_nil, Nat.reduceAdd, Nat.reduceSub, Array.replicate_succ, Array.replicate_zero, List.push_toArray, List.append_toArray, List.nil_append, List.cons_append]
  gi_wp2
  gi_loopw [4] (fun iv wr => ∃ (i k : Nat) (pre : List (Ck w)), k ≤ np n ∧ i = 240 * k ∧ iv = .int .i64 i ∧ pre.map Ck.bs = (List.range k).map (chunk cs) ∧ J pre wr ∧ wr.cell? ⟨Bs, 0, none⟩ = some (.slice (some ad) n c) ∧ wr.cell? ⟨Bn, 0, none⟩ = some (.int .i64 240)) (fun iv _ => n + 240 - (intOf iv).toNat)
  case atStart => exact ⟨0, 0, [], Nat.zero_le _, rfl, rfl, rfl, h0, hBs, hBn⟩
  case round =>
    obtain ⟨i, k, pre, hk, hik, rfl, hpre, hJs, c1, c2⟩ := hrel
    by_cases hlt : i < n
    · obtain ⟨e, he⟩ : ∃ e, min 240 (n - i) = e := ⟨_, rfl⟩
      have EE := Lib.hid (show e ≤ 240 ∧ 0 < e ∧ i + e ≤ n ∧ e = min 240 (n - i) by omega)
      obtain ⟨E, hE⟩ : ∃ E, i + e = E := ⟨_, rfl⟩
      obtain ⟨R, hR'⟩ : ∃ R, n - i = R := ⟨_, rfl⟩
      have hnc : n ≤ c := HC.out
      obtain ⟨i0, hi0, hs0⟩ := info8'
      obtain ⟨A1, hcut1, hr1⟩ := print_cut (P := Tryd.prog) 24 5 .i64 Tryd.underlying24 hi0 hs0 (some ad) n c i (by omega)
      have hcut2 := cut_three ad n c i E (by omega) (by omega)
      rw [hR'] at hcut1
      have hEi : E - i = e := by omega
      rw [hEi] at hcut2
      have hread : ReadsInt w .u8 (some (ad.add i)) e ((cs.drop i).take e) := by
        have h1 := (R0.out.drop_ (c := c) i (by omega) hnc).take_ e (by omega)
        rw [if_neg (by omega)] at h1
        exact h1
      obtain ⟨x, hx⟩ : ∃ x : Ck w, x = ⟨⟨some (ad.add i), e, e, (cs.drop i).take e⟩, EE.out.1, hread⟩ := ⟨_, rfl⟩
      have hxb : x.bs = chunk cs k := by
        rw [hx]
        show (cs.drop i).take e = (cs.drop (240 * k)).take 240
        rw [← hik, EE.out.2.2.2, ← List.take_take, List.take_of_length_le (l := cs.drop i) (by rw [List.length_drop, R0.out.1]; exact Nat.le_refl _)]
      have hkl : pre.length < np n := by
        have h1 := congrArg List.length hpre
        rw [List.length_map, List.length_map, List.length_range] at h1
        unfold np; omega
      obtain ⟨fn, tmps, assign, body, hy, hR⟩ := hY pre x wr.drew (hJd _ _ hJs) hkl
      rw [hx] at hy
      dsimp only at hy
      have XB := Lib.hid hxb
      have XP := Lib.hid hpre
      have KK := Lib.hid (show k + 1 ≤ np n ∧ i = 240 * k ∧ i < n ∧ n ≤ 140737488351232 by have := HN.out; unfold np; omega)
      have YR := Lib.hid hR
      have hEE : (i : Int) + (e : Int) = (E : Int) := by omega
      have b1 : (n : Int) ≤ 140737488351232 := by have := HN.out; omega
      have b2 : (E : Int) ≤ 140737488351232 := by have := HN.out; omega
      have b3 : (i : Int) ≤ 140737488351232 := by have := HN.out; omega
      have bR : (R : Int) ≤ 140737488351232 := by have := HN.out; omega
      clear hx hr1 hi0 hs0 hE hEi hread hxb hkl hpre hJs hk hik hR he
      by_cases hR240 : R < 240
      · have hd : ((R : Int) < 240) := by omega
        have he' : e = R := by have := EE.out; omega
        subst he'
        have FIN := Lib.hid (show n ≤ i + 240 by omega)
        have Z8 := Lib.hid hR240
        clear hR' hR240
        gi_wp2
        gi_region
        gi_wp2
        refine YR.out.mono ?_
        rintro e3 W3 (⟨rfl, hJ3, hk3⟩ | ⟨rfl, hJx3⟩)
        · have d1 : W3.cell? ⟨Bs, 0, none⟩ = some (.slice (some ad) n c) := hk3.cells.1.trans c1
          have d2 : W3.cell? ⟨Bn, 0, none⟩ = some (.int .i64 240) := hk3.cells.2.trans c2
          have N3 := Lib.hid (And.intro d1 d2)
          clear hk3
          gi_wp2
          go_roundw
          case rel => exact ⟨i + 240, k + 1, pre ++ [x], KK.out.1, by have := KK.out.2.1; omega, by push_cast; rfl, by rw [List.map_append, XP.out, List.range_succ, List.map_append]; simp [XB.out], hJ3, N3.out.1, N3.out.2⟩
          case measure => have := KK.out; simp [intOf]; omega
        · gi_wp2
          refine bodyPost_ret (results_none rfl _ _ _) rfl ?_
          exact ⟨⟨_, rfl⟩, .inr ⟨_, trivial, hJx3⟩⟩
      · have hd : ¬ ((R : Int) < 240) := by omega
        have he' : e = 240 := by have := EE.out; omega
        subst he'
        have hE2 : (i : Int) + 240 = (E : Int) := by simpa using hEE
        clear hEE
        have Z8 := Lib.hid hR240
        clear hR' hR240
        gi_wp2
        gi_region
        gi_wp2
        refine YR.out.mono ?_
        rintro e3 W3 (⟨rfl, hJ3, hk3⟩ | ⟨rfl, hJx3⟩)
        · have d1 : W3.cell? ⟨Bs, 0, none⟩ = some (.slice (some ad) n c) := hk3.cells.1.trans c1
          have d2 : W3.cell? ⟨Bn, 0, none⟩ = some (.int .i64 240) := hk3.cells.2.trans c2
          have N3 := Lib.hid (And.intro d1 d2)
          clear hk3
          gi_wp2
          go_roundw
          case rel => exact ⟨E, k + 1, pre ++ [x], KK.out.1, by have := KK.out.2.1; omega, rfl, by rw [List.map_append, XP.out, List.range_succ, List.map_append]; simp [XB.out], hJ3, N3.out.1, N3.out.2⟩
          case measure => have := KK.out; simp [intOf]; omega
        · gi_wp2
          refine bodyPost_ret (results_none rfl _ _ _) rfl ?_
          exact ⟨⟨_, rfl⟩, .inr ⟨_, trivial, hJx3⟩⟩
    · have hkn : k = np n := by unfold np at hk ⊢; omega
      have d : decide ((i : Int) < (n : Int)) = false := decide_eq_false (by omega)
      gi_wp2
      go_end0
      exact ⟨⟨_, rfl⟩, .inl ⟨pre, by rw [← hkn]; exact hpre, hJs⟩⟩

set_option maxRecDepth 100000 in
set_option maxHeartbeats 1600000 in
/-- .. at a list that is empty: no round. -/
theorem chunk1_none (m : Nat) (l Bs : Nat) (A : Option Addr) (c : Nat) (p2 : Option Addr) (W : World) (hBs : W.cell? ⟨Bs, 0, none⟩ = some (.slice A 0 c)) :
    CallsIn Fence.wide m Tryd.prog 28 #[.func (.yield l) #[] #[], .pointer (some ⟨Bs, 0, none⟩), .pointer p2] W fun e W' => (∃ v, e = .returned v) ∧ W' = W := by
  refine callsIn_of_wp Tryd.func28 rfl trivial ?_ rfl
  simp only [Tryd.ntmps28, List.size_toArray, List.length_cons, List.length_nil, Nat.reduceAdd, Nat.reduceSub, Array.replicate_succ, Array.replicate_zero, List.push_toArray, List.append_toArray, List.nil_append, List.cons_append]
  gi_wp2
  gi_loopw [4] (fun iv wr => iv = .int .i64 0 ∧ wr = W) (fun _ _ => 0)
  case atStart => exact ⟨rfl, rfl⟩
  case round =>
    obtain ⟨rfl, rfl⟩ := hrel
    gi_wp2
    go_end0
    exact ⟨⟨_, rfl⟩, rfl⟩
/-- The iterator that slices.Chunk hands back: all chunks, in order. -/
theorem chunk_stops (m : Nat) (hm : 1 ≤ m) (n₀ Bs Bn : Nat) (A : Option Addr) (n c : Nat) (cs : List Int) (w w0 : World) (hb : Below w.heap.size w w0) (HR : ReadsInt w .u8 A n cs) (hnc : n ≤ c) (hn : n ≤ 140737488351232) (hBs : w0.cell? ⟨Bs, 0, none⟩ = some (.slice A n c)) (hBn : w0.cell? ⟨Bn, 0, none⟩ = some (.int .i64 240)) :
    SeqStopsK Fence.wide m Tryd.prog 28 #[.pointer (some ⟨Bs, 0, none⟩), .pointer (some ⟨Bn, 0, none⟩)] (fun x : Ck w => #[Value.slice x.1.ad x.1.n x.1.n]) (KpC n₀ Bs Bn) (fun ys => ys.map Ck.bs = (List.range (np n)).map (chunk cs)) (fun _ => True) (np n) w0 := fun l J Jx W hW hJ _ hY h0 => by
  have hBs' := (hW.cell (p := ⟨Bs, 0, none⟩) (World.block_lt_of_cell? _ _ hBs)).trans hBs
  have hBn' := (hW.cell (p := ⟨Bn, 0, none⟩) (World.block_lt_of_cell? _ _ hBn)).trans hBn
  rcases Nat.eq_zero_or_pos n with h | h
  · subst h
    refine (chunk1_none m l Bs A c _ W hBs').mono ?_
    rintro e W' ⟨he, rfl⟩
    exact ⟨he, .inl ⟨[], rfl, h0⟩⟩
  · obtain ⟨ad, rfl, _⟩ := HR.2.2 h
    exact chunk1_in m hm l n₀ Bs Bn w ad n c cs HR hnc hn J Jx (fun s V hs => hJ s V V.drew none hs ⟨rfl, rfl, rfl, Nat.le_refl _, fun _ _ _ => rfl⟩ (fun r e => by cases e)) hY W hBs' hBn' h0
end Go.Proofs.YtnnclfaibcedoaaDoor.Cnt
