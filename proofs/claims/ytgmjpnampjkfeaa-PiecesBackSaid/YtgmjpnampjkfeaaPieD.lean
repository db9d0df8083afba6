/- Pieces: all that a cutter tells; Cut: by their contracts (every input). -/
import Derived.Test.YtgmjpnampjkfeaaPieC
set_option linter.unusedVariables false
set_option linter.unusedSimpArgs false
namespace Go.Proofs.Ytgmjpnampjkfeaa.Pie
open Go Go.RowKit Go.Proofs.YtgmjpnampjkfeaaW.PrintWords Go.Proofs.YtgmjpnampjkfeaaW.PrintLast Go.Proofs.YtgmjpnampjkfeaaW.PrintMore Base

def sliceLen : Value → Nat
  | .slice _ n _ => n
  | _ => 0
theorem infoP : (Try.prog.info? 31).map (fun i => (i.zero, i.size, i.bytes)) = some (some (.agg #[.int .u64 0, .int .i64 0, .int .i64 0, .int .i64 0]), 4, 32) := by kernel_rfl
theorem own_neP {w : World} {base : Nat} {e : TypeId} {size n : Nat} {v : Value} {xs : List Value} (h : w.ownsRow base e size v n xs) {p : Nat} (hp : p < base) : some p ≠ v.ownBlock := by
  intro he
  have := own_base h p he.symm
  omega
theorem own_setRow {w : World} {base : Nat} {e : TypeId} {size n : Nat} {v : Value} {xs : List Value} (h : w.ownsRow base e size v n xs) {g : Nat} (hne : some g ≠ v.ownBlock) (cs : Array Value) : (w.setRow g cs).ownsRow base e size v n xs := by
  obtain ⟨h1, h2⟩ := h
  refine ⟨h1, ?_⟩
  rcases h2 with h2 | ⟨k, cap, cur, rfl, hk, hh, r⟩
  · exact .inl h2
  · exact .inr ⟨k, cap, cur, rfl, hk, by rw [setRow_other _ _ _ _ (fun e => hne (by rw [← e]; rfl))]; exact hh, r⟩
theorem grown_then {w w1 w2 : World} {row : Option Nat} (h : w.grownBy w1 row) (k : w1.grownBy w2 row) : w.grownBy w2 row :=
  ⟨k.os.trans h.os, k.tape.trans h.tape, k.output.trans h.output, Nat.le_trans h.size k.size, fun i hi hne => (k.block i (Nat.lt_of_lt_of_le hi h.size) hne).trans (h.block i hi hne)⟩
theorem grown_below {w w1 w2 : World} {row : Option Nat} (h : w.grownBy w1 row) (k : Below w.heap.size w1 w2) : w.grownBy w2 row :=
  ⟨k.os.trans h.os, k.tape.trans h.tape, k.output.trans h.output, Nat.le_trans h.size k.size, fun i hi hne => (k.block i hi).trans (h.block i hi hne)⟩
set_option maxRecDepth 100000 in
set_option maxHeartbeats 3200000 in
theorem all_any (O N g : Nat) (w : World) (hb : O + N ≤ 4294967296) (hn : N ≤ 65536) (hrow : w.heap[g]? = some (.cells (stv O N 0) 47)) :
    Calls Try.prog 25 #[.func (.func 26) #[.pointer (some ⟨g, 0, none⟩)] #[]] w fun e w' => ∃ A c, e = .returned (.slice A (cntP O N) (cntP O N)) ∧ w'.ownsRow w.heap.size 31 4 (.slice A (cntP O N) c) (cntP O N) (cutC O N (cntP O N)) ∧ w.grownBy w' (some g) := by
  obtain ⟨M, hM⟩ : ∃ M, cntP O N = M := ⟨_, rfl⟩
  have HM := Lib.hid hM
  have hMs : M ≤ 65536 := by rw [← hM]; unfold cntP; split <;> omega
  have hg : g < w.heap.size := (Array.getElem?_eq_some_iff.1 hrow).1
  have HG := Lib.hid hg
  have HR := Lib.hid hrow
  rw [hM]
  clear hM hrow hg
  go_enter Try.func25, Try.ntmps25
  go_wp2_with fail
  refine (next_k O N 0 g _ hb (by omega) HR.out).mono ?_; rintro e w1 ⟨rfl, hst, hgr⟩
  obtain ⟨a, b, c, d, hp⟩ := pcv_form O N 0
  rw [hp, HM.out]
  obtain ⟨w2, hw2, b2, f2, s2⟩ := made w1 #[.int .u64 0, .int .i64 0, .int .i64 0, .int .i64 0] 31
  obtain ⟨w3, hw3⟩ : ∃ w3, w2.setRow w1.heap.size #[.int .u64 a, .int .i64 b, .int .i64 c, .int .i64 d] = w3 := ⟨_, rfl⟩
  have F2 := Lib.hid f2
  have P3 := Lib.hid (show w3.heap[w1.heap.size]? = some (.cells (pcv O N 0).toArray 31) by rw [← hw3, hp]; exact setRow_heap _ _ _ _ _ _ f2)
  have T3 := Lib.hid (show w3.heap[g]? = some (.cells (stv O N 1) 47) by rw [← hw3, setRow_other _ _ _ _ (by have := HG.out; have := hgr.size; omega)]; exact keep_row hst b2)
  have G3 := Lib.hid (show w.grownBy w3 (some g) by rw [← hw3]; exact grown_below hgr (below_setRow (b2.mono hgr.size) hgr.size _))
  have S3 := Lib.hid (show w1.heap.size < w3.heap.size ∧ w.heap.size ≤ w1.heap.size by refine ⟨?_, hgr.size⟩; rw [← hw3]; simp only [World.setRow, Array.size_modify]; omega)
  clear hst hgr b2 f2 s2 hp
  go_wp2_with ((with_reducible refine wpList_store_row rfl 31 (.tmp 4) (.tmp 9) rfl w1.heap.size #[.int .u64 a, .int .i64 b, .int .i64 c, .int .i64 d] ?_ ?_ 31 _ F2.out (sizeP _ _ _ _) ?_ (oneP _ _ _ _) ?_); rfl; rfl; rfl; rw [hw3])
  clear hw3 hw2 F2
  go_loopw [3, 4, 5] (fun l pp ok wr => ∃ (k gp : Nat) (A : Option Addr) (cc : Nat), k ≤ M ∧ l = .slice A k cc ∧ pp = .pointer (some ⟨gp, 0, none⟩) ∧ ok = .bool (decide (k < M)) ∧ w.heap.size ≤ gp ∧ wr.ownsRow w.heap.size 31 4 (.slice A k cc) k (cutC O N k) ∧ some gp ≠ (Value.slice A k cc).ownBlock ∧
    wr.heap[gp]? = some (.cells (pcv O N k).toArray 31) ∧ wr.heap[g]? = some (.cells (stv O N (k + 1)) 47) ∧ w.grownBy wr (some g)) (fun l _ _ _ => M - sliceLen l)
  case atStart => exact ⟨0, w1.heap.size, none, 0, by omega, rfl, rfl, rfl, S3.out.2, own_nil _ _ _ _, by simp [Value.ownBlock], P3.out, T3.out, G3.out⟩
  case round =>
    obtain ⟨k, gp, A, cc, hk, rfl, rfl, rfl, hgp, hown, hne, hpr, hst, hgr⟩ := hrel
    have HO := Lib.hid hown
    have HNE := Lib.hid hne
    have HT := Lib.hid hst
    have HGR := Lib.hid hgr
    have HGP := Lib.hid hgp
    have HK := Lib.hid hk
    obtain ⟨a, b, c, d, hp⟩ := pcv_form O N k
    have HP := Lib.hid (show wr.heap[gp]? = some (.cells #[.int .u64 a, .int .i64 b, .int .i64 c, .int .i64 d] 31) by rw [hpr, hp])
    have HPC := Lib.hid hp
    clear hown hne hpr hst hgr hgp hp P3 T3 G3 S3
    by_cases hlt : k < M
    · have hd : decide (k < M) = true := decide_eq_true hlt
      have hpcell := Lib.hid (show pcell O N k = [.int .u64 a, .int .i64 b, .int .i64 c, .int .i64 d] by rw [← HPC.out]; exact (if_pos (by rw [HM.out]; exact hlt)).symm)
      have HLT := Lib.hid hlt
      rw [hd]
      clear hd hlt hk
      go_wp2_with (first | (at_builtin; refine print_append_cells (w0 := wr) (W := wr) w.heap.size rfl (.tmp 17) (.tmp 19) 26 31 (.agg #[.int .u64 0, .int .i64 0, .int .i64 0, .int .i64 0]) 4 32 rfl Try.underlying26 infoP rfl (by omega) (by omega) (.slice A k cc) k (cutC O N k) [.int .u64 a, .int .i64 b, .int .i64 c, .int .i64 d] rfl (by simp [Act.eval, Act.put]) rfl (by intro u hu; simp at hu; rcases hu with rfl | rfl | rfl | rfl <;> rfl) HO.out (Below.refl _ _) HGR.out.size (by have := HLT.out; omega) ?_) | ((with_reducible refine wpList_load_row rfl 31 (.tmp 4) rfl gp ?_ 31 _ _ _ HP.out Try.underlying31 ?_ (sizeP _ _ _ _) ?_); rfl; rfl))
      intro v6 w6 hown hB hg hat
      obtain ⟨A6, c6, rfl⟩ := own_slice hown
      have O6 := Lib.hid (show w6.ownsRow w.heap.size 31 4 (.slice A6 (k + 1) c6) (k + 1) (cutC O N (k + 1)) by simp only [cutC]; rw [hpcell.out]; exact hown)
      have gpl : gp < wr.heap.size := (Array.getElem?_eq_some_iff.1 HP.out).1
      have P6 := Lib.hid (show w6.heap[gp]? = some (.cells #[.int .u64 a, .int .i64 b, .int .i64 c, .int .i64 d] 31) by rw [hg.block gp gpl HNE.out]; exact HP.out)
      have T6 := Lib.hid (show w6.heap[g]? = some (.cells (stv O N (k + 1)) 47) by rw [hg.block g (Array.getElem?_eq_some_iff.1 HT.out).1 (own_neP HO.out HG.out)]; exact HT.out)
      have G6 := Lib.hid (show w.grownBy w6 (some g) from grown_below HGR.out hB)
      obtain ⟨w7, hw7, b7, f7, s7⟩ := made w6 #[.int .u64 0, .int .i64 0, .int .i64 0, .int .i64 0] 31
      obtain ⟨w8, hw8⟩ : ∃ w8, w7.setRow w6.heap.size #[.int .u64 a, .int .i64 b, .int .i64 c, .int .i64 d] = w8 := ⟨_, rfl⟩
      have F7 := Lib.hid f7
      have hgl : g < w6.heap.size := (Array.getElem?_eq_some_iff.1 T6.out).1
      have P8 := Lib.hid (show w8.heap[w6.heap.size]? = some (.cells #[.int .u64 a, .int .i64 b, .int .i64 c, .int .i64 d] 31) by rw [← hw8]; exact setRow_heap _ _ _ _ _ _ f7)
      have T8 := Lib.hid (show w8.heap[g]? = some (.cells (stv O N (k + 1)) 47) by rw [← hw8, setRow_other _ _ _ _ (by omega)]; exact keep_row T6.out b7)
      have N6 := Lib.hid (show some w6.heap.size ≠ (Value.slice A6 (k + 1) c6).ownBlock by intro he; have := own_lt O6.out _ he.symm; omega)
      have O8 := Lib.hid (show w8.ownsRow w.heap.size 31 4 (.slice A6 (k + 1) c6) (k + 1) (cutC O N (k + 1)) by rw [← hw8]; exact own_setRow (pw_own_below O6.out b7) N6.out _)
      have G8 := Lib.hid (show w.grownBy w8 (some g) by rw [← hw8]; exact grown_below G6.out (below_setRow (b7.mono G6.out.size) G6.out.size _))
      have S8 := Lib.hid (show w6.heap.size < w8.heap.size by rw [← hw8]; simp only [World.setRow, Array.size_modify]; omega)
      clear hown hB hg hat gpl b7 f7 s7 hgl
      go_wp2_with (first | ((with_reducible refine wpList_load_row rfl 31 (.tmp 4) rfl gp ?_ 31 _ _ _ P6.out Try.underlying31 ?_ (sizeP _ _ _ _) ?_); rfl; rfl) | ((with_reducible refine wpList_store_row rfl 31 (.tmp 4) (.tmp 21) rfl w6.heap.size #[.int .u64 a, .int .i64 b, .int .i64 c, .int .i64 d] ?_ ?_ 31 _ F7.out (sizeP _ _ _ _) ?_ (oneP _ _ _ _) ?_); rfl; rfl; rfl; rw [hw8]))
      clear hw8 hw7
      refine (next_k O N (k + 1) g _ hb (by omega) T8.out).mono ?_; rintro e w9 ⟨rfl, hst, hgr⟩
      obtain ⟨a', b', c', d', hp'⟩ := pcv_form O N (k + 1)
      rw [hp', HM.out]
      obtain ⟨w10, hw10⟩ : ∃ w10, w9.setRow w6.heap.size #[.int .u64 a', .int .i64 b', .int .i64 c', .int .i64 d'] = w10 := ⟨_, rfl⟩
      have hg6 : w6.heap.size ≠ g := by have := (Array.getElem?_eq_some_iff.1 T6.out).1; omega
      have P9 := Lib.hid (show w9.heap[w6.heap.size]? = some (.cells #[.int .u64 a, .int .i64 b, .int .i64 c, .int .i64 d] 31) by rw [hgr.block _ S8.out (by intro he; injection he with he; exact hg6 he)]; exact P8.out)
      have P10 := Lib.hid (show w10.heap[w6.heap.size]? = some (.cells (pcv O N (k + 1)).toArray 31) by rw [← hw10, hp']; exact setRow_heap _ _ _ _ _ _ P9.out)
      have T10 := Lib.hid (show w10.heap[g]? = some (.cells (stv O N (k + 1 + 1)) 47) by rw [← hw10, setRow_other _ _ _ _ (Ne.symm hg6)]; exact hst)
      have O10 := Lib.hid (show w10.ownsRow w.heap.size 31 4 (.slice A6 (k + 1) c6) (k + 1) (cutC O N (k + 1)) by
        rw [← hw10]
        exact own_setRow (own_other O8.out hgr (by
          cases h : (Value.slice A6 (k + 1) c6).ownBlock with
          | none => exact .inl rfl
          | some q => exact .inr (by intro he; injection he with he; exact own_neP O8.out HG.out (by rw [h, he])))) N6.out _)
      have G10 := Lib.hid (show w.grownBy w10 (some g) by rw [← hw10]; exact grown_below (grown_then G8.out hgr) (below_setRow (Below.refl _ _) G6.out.size _))
      have HG6 := Lib.hid (show w.heap.size ≤ w6.heap.size from G6.out.size)
      clear hst hgr hp' hg6
      go_wp2_with ((with_reducible refine wpList_store_row rfl 31 (.tmp 4) (.tmp 15) rfl w6.heap.size #[.int .u64 a', .int .i64 b', .int .i64 c', .int .i64 d'] ?_ ?_ 31 _ P9.out (sizeP _ _ _ _) ?_ (oneP _ _ _ _) ?_); rfl; rfl; rfl; rw [hw10])
      go_roundw
      case rel => exact ⟨k + 1, w6.heap.size, A6, c6, by have := HLT.out; omega, rfl, rfl, rfl, HG6.out, O10.out, N6.out, P10.out, T10.out, G10.out⟩
      case measure => simp [sliceLen]; have := HLT.out; omega
    · obtain rfl : k = M := by omega
      have hd : decide (k < k) = false := by simp
      have hcc : (k : Int) ≤ (cc : Int) := by have := own_cap HO.out; omega
      rw [hd]
      clear hd hlt hk
      go_wp2_with fail
      go_ret
      rw [HM.out] at *
      exact ⟨A, cc, rfl, HO.out, HGR.out⟩
end Go.Proofs.Ytgmjpnampjkfeaa.Pie
