/- What bytes say as a node: plain; the reader's number (every input). -/
import Derived.Test.YtdekplalhfpooaaNodD
import Derived.Test.YtdekplalhfpooaaHlq
set_option linter.unusedVariables false
set_option linter.unusedSimpArgs false
namespace Go.Proofs.Ytdekplalhfpooaa.Nod
open Go Go.RowKit Go.Proofs.YtdekplalhfpooaaW.PrintWords Go.Proofs.YtdekplalhfpooaaW.PrintLast Go.Proofs.YtdekplalhfpooaaW.PrintMore Base Odr Hlp

structure GS where (e : Int) (K V r : List Int)
def badG (e : Int) : GS := ⟨e, [], [], []⟩
def stV (f : List Int → List Int → List Int → GS) (r K V : List Int) : GS := if r.length < 8 then badG 4 else if getN (r.take 8) = 0 then badG 5 else f (r.drop 8) K (V ++ [getN (r.take 8)])
/-- So many pairs off bytes, behind those that there are. -/
def goN : Nat → List Int → List Int → List Int → GS
  | 0, r, K, V => ⟨0, K, V, r⟩
  | n + 1, r, K, V => if r.length < 8 then badG 4 else if 0 < K.length ∧ getN (r.take 8) ≤ K.getD (K.length - 1) 0 then badG 5 else stV (goN n) (r.drop 8) (K ++ [getN (r.take 8)]) V
structure TN where (e : Int) (L : Bool) (K V : List Int)
def ntN (e : Int) : TN := ⟨e, false, [], []⟩
def endN (L : Bool) (g : GS) : TN := if g.e ≠ 0 then ntN g.e else if g.r.all (· == 0) then ⟨0, L, g.K, g.V⟩ else ntN 5
/-- What bytes say. -/
def takeN (b : List Int) : TN :=
  if b.length < 1 then ntN 4 else if 1 < b.getD 0 0 then ntN 5 else if b.length < 2 then ntN 4 else if b.getD 1 0 < 1 ∨ 8 < b.getD 1 0 then ntN 5 else endN (b.getD 0 0 == 1) (goN (b.getD 1 0).toNat (b.drop 2) [] [])
theorem take_end {b : List Int} {x0 x1 : Int} {L : Bool} {cnt : Nat} {G : GS} (h1 : 2 ≤ b.length) (hx0 : x0 = b.getD 0 0) (h2 : ¬ 1 < x0) (hx1 : x1 = b.getD 1 0) (h3 : ¬ (x1 < 1 ∨ 8 < x1)) (hL : (x0 == 1) = L) (hc : x1 = (cnt : Int)) (hG : goN cnt (b.drop 2) [] [] = G) : takeN b = endN L G := by
  subst hx0; subst hx1
  unfold takeN
  rw [if_neg (by omega), if_neg h2, if_neg (by omega), if_neg h3, hL, hc, Int.toNat_natCast, hG]
theorem end_bad {L : Bool} {er : Int} (h : er ≠ 0) : endN L (badG er) = ntN er := by simp [endN, badG, h]
theorem nt_post {b : List Int} {er : Int} {w w' : World} (h : takeN b = ntN er) (hb : Below w.heap.size w w') :
    ∃ A1 c1 A2 c2, Ending.returned (.tuple #[.agg #[.bool false, .slice none 0 0, .slice none 0 0], .int .i64 er]) = .returned (.tuple #[.agg #[.bool (takeN b).L, .slice A1 (takeN b).K.length c1, .slice A2 (takeN b).V.length c2], .int .i64 (takeN b).e]) ∧
      w'.ownsRow w.heap.size 25 1 (.slice A1 (takeN b).K.length c1) (takeN b).K.length (nums .u64 (takeN b).K) ∧ w'.ownsRow w.heap.size 25 1 (.slice A2 (takeN b).V.length c2) (takeN b).V.length (nums .u64 (takeN b).V) ∧
      (∀ p, (Value.slice A1 (takeN b).K.length c1).ownBlock = some p → (Value.slice A2 (takeN b).V.length c2).ownBlock ≠ some p) ∧ Below w.heap.size w w' := by
  rw [h]
  exact ⟨none, 0, none, 0, rfl, own_nil _ _ _ _, own_nil _ _ _ _, fun p hp => by simp [Value.ownBlock] at hp, hb⟩
theorem St_far {w W : World} {base gN p : Nat} {tN e : TypeId} {nd : Array Value} {R : List (Nat × Obj)} {vk vv : Value} {nk nv : Nat} {K V : List Int} (h : St w base gN tN e nd R vk vv nk nv K V W) (hp : w.heap.size ≤ p) (hpb : p < base) (hpN : gN ≠ p) (hR : ∀ q ∈ R, q.1 ≠ p) (u : Value) :
    St w base gN tN e nd R vk vv nk nv K V (W.setCell ⟨p, 0, none⟩ u) :=
  ⟨own_setCell h.ok (own_ne h.ok hpb) _, own_setCell h.ov (own_ne h.ov hpb) _, h.sep, blk_far h.node hpN u, fun q hq => ⟨(Below.heap_setCell _ _ _ _ (hR q hq)).trans (h.rows q hq).1, (h.rows q hq).2⟩, h.bel.setCell hp _, h.lt, by rw [World.size_setCell]; exact h.le, h.hN⟩

theorem get_eight (b : List Int) (A : Option Addr) (n c : Nat) (w : World) (HR : ReadsInt w .u8 A n b) (hw : ∀ x ∈ b, (Lit.int .u8 x).wf = true) (hc : n ≤ c) (hs : 8 ≤ n) :
    Calls Try.prog 68 #[.slice A n c, .int .i64 8] w fun e w' => e = .returned (.tuple #[.int .u64 (getN (b.take 8)), .int .i64 0]) ∧ w = w' := get_any b A n c 8 w HR hw hc (by omega) (by omega) hs
set_option maxHeartbeats 1600000 in
/-- The reader r's block is g; what it reads is older than g's world W. -/
theorem number_ok (b : List Int) (A : Option Addr) (n c g : Nat) (W w : World) (HR : ReadsInt W .u8 A n b) (hw : ∀ x ∈ b, (Lit.int .u8 x).wf = true) (hc : n ≤ c) (hs : 8 ≤ n) (hb : Below W.heap.size W w)
    (hcell : w.cell? ⟨g, 0, none⟩ = some (.slice A n c)) (hf : w.frozen? ⟨g, 0, none⟩ = false) :
    Calls Try.prog 55 #[.pointer (some ⟨g, 0, none⟩)] w fun e w' => e = .returned (.tuple #[.int .u64 (getN (b.take 8)), .int .i64 0]) ∧ ∃ A', ReadsInt W .u8 A' (n - 8) (b.drop 8) ∧ w' = w.setCell ⟨g, 0, none⟩ (.slice A' (n - 8) (c - 8)) := by
  obtain ⟨i0, hi0, hs0⟩ := info8'
  obtain ⟨A1, hA1, hr1⟩ := print_cut (P := Try.prog) 41 5 .i64 Try.underlying41 hi0 hs0 A n c 8 hs
  have hA8 : ∀ W : World, (Instr.slice 41 (.slice A n c) (some (.int .i64 8)) none none).run Try.prog W = .ok (.slice A1 (n - 8) (c - 8)) W := hA1
  clear hA1
  have R1 := Lib.hid (hr1 _ _ _ hc HR)
  have HRH := Lib.hid (ReadsInt.below HR hb)
  have HW := Lib.hid hw
  have h8 : (8 : Int) ≤ (n : Int) := by omega
  clear HR hw hr1 hi0 hs0 i0 hb
  go_enter Try.func55, Try.ntmps55
  go_wp2_with fail
  refine (get_eight b A n c _ HRH.out HW.out hc hs).mono ?_; rintro e w' ⟨rfl, rfl⟩
  go_wp2_with fail
  go_ret2
  exact ⟨rfl, A1, R1.out, rfl⟩
set_option maxHeartbeats 1600000 in
theorem number_short (A : Option Addr) (n c g : Nat) (w : World) (hs : n < 8) (hcell : w.cell? ⟨g, 0, none⟩ = some (.slice A n c)) :
    Calls Try.prog 55 #[.pointer (some ⟨g, 0, none⟩)] w fun e w' => e = .returned (.tuple #[.int .u64 0, .int .i64 4]) ∧ w = w' := by
  go_enter Try.func55, Try.ntmps55
  go_wp2_with fail
  refine (get_short A n c 8 _ (by omega) (by omega) hs).mono ?_; rintro e w' ⟨rfl, rfl⟩
  go_wp2_with fail
  go_ret2
  exact ⟨rfl, rfl⟩
end Go.Proofs.Ytdekplalhfpooaa.Nod
