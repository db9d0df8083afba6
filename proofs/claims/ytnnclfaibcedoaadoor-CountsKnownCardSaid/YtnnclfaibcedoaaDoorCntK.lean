/- Counts: Put, by its contract (every input): a loop over what slices.Chunk hands over. -/
import Derived.Test.YtnnclfaibcedoaaDoorCntJ
set_option linter.unusedVariables false
set_option linter.unusedSimpArgs false
namespace Go.Proofs.YtnnclfaibcedoaaDoor.Cnt
open Go Go.RowKit Go.Shelf Go.Proofs.YtnnclfaibcedoaaDoorW.PrintWords Go.Proofs.YtnnclfaibcedoaaDoorW.PrintLast Go.Proofs.YtnnclfaibcedoaaDoorW.PrintMore Base Odr Hlp Trm
attribute [local go_sem] Oper.semAt_some

theorem app_pg {W : World} {base n : Nat} {v : Value} {qs : List Pg} {p : Pg} {ad : Addr} (hown : W.ownsRow base 24 1 v n (encs sl qs)) (hc : W.cell? ad = some (sl p)) (hn : (n + 1) * 24 ≤ 140737488355328) (hb : base ≤ W.heap.size) :
    ∃ A' c' w', (∀ ty, (Builtin.append_ #[22, 22] ty #[v, .slice (some ad) 1 1]).run Tryd.prog W = .ok (.slice A' (n + 1) c') w') ∧ w'.ownsRow base 24 1 (.slice A' (n + 1) c') (n + 1) (encs sl (qs ++ [p])) ∧ W.grownBy w' v.ownBlock := by
  obtain ⟨i, hi, hzz⟩ := Option.map_eq_some_iff.1 info24
  simp only [Prod.mk.injEq] at hzz
  obtain ⟨hz0, hz1, hz2⟩ := hzz
  obtain ⟨v1, w1, hr, h2, h3, h4, h5⟩ := run_append_own_at (P := Tryd.prog) (w := W) base 22 0 24 i (.slice none 0 0) 1 24 Tryd.underlying22 hi hz0 hz1 hz2 rfl (by omega) v n (encs sl qs) hown ad 1 1 [sl p] rfl
    (by intro j u hu; rcases j with _ | j
        · rw [show ad.add 0 = ad from by simp [Addr.add]]; simp at hu; rw [hc, ← hu]
        · simp at hu)
    (by intro u hu; simp at hu; rw [hu]; rfl) (by simp only [maxLen]; omega) hn hb
  have e2 : encs sl qs ++ [sl p] = encs sl (qs ++ [p]) := by simp [encs]
  rw [e2] at h2
  obtain ⟨A', c', rfl⟩ := own_slice h2
  refine ⟨A', c', w1, fun ty => ?_, h2, h3⟩
  have : (Builtin.append_ #[22, 22] ty #[v, .slice (some ad) 1 1]) = (Builtin.append_ #[22, 22] 0 #[v, .slice (some ad) 1 1]) := rfl
  rw [this]; exact hr
theorem own_not {W : World} {base : Nat} {e : TypeId} {n : Nat} {v : Value} {xs : List Value} {row : Option Nat} (h : W.ownsRow base e 1 v n xs) (hr : ∀ r, row = some r → ∃ o : Obj, W.heap[r]? = some o ∧ o.isCells = false) : v.ownBlock = none ∨ v.ownBlock ≠ row := by
  cases hv : v.ownBlock with
  | none => exact .inl rfl
  | some k =>
    refine .inr fun e' => ?_
    obtain ⟨cells, hk⟩ := own_typed h k hv
    obtain ⟨o, ho, hc⟩ := hr k e'.symm
    rw [hk] at ho
    cases ho
    cases hc
/-- Between two rounds: the list's box, and its pages. -/
def PutI (w : World) (pre : List (Ck w)) (W : World) : Prop := (∃ v qs, Boxed W w.heap.size 22 v ∧ OwnsP W (w.heap.size + 3) v qs ∧ qs.length = pre.length ∧ qs.map Pg.bs = pre.map (fun x => pad x.bs)) ∧ Below w.heap.size w W ∧ w.heap.size + 3 ≤ W.heap.size
theorem putI_own (w : World) (B : Nat) (hB : w.heap.size ≤ B) : OwnFrom B (PutI w) := by
  refine OwnFrom.and (Own.from ?_ B) (OwnFrom.and (ownFrom_below (Nat.le_refl _) hB) (fun s X Y row hs hg hr => Nat.le_trans hs hg.size))
  rintro s X Y row ⟨v, qs, hv, ho, hl, hm⟩ hg hr
  refine ⟨v, qs, hv.kept hg (fun e' => ?_), ⟨own_other ho.row hg (own_not ho.row hr), fun p hp => own_other (ho.pgs p hp) hg (own_not (ho.pgs p hp) hr)⟩, hl, hm⟩
  obtain ⟨o, hob, hc⟩ := hr _ e'.symm
  rw [show X.heap[w.heap.size]? = _ from hv] at hob
  cases hob
  cases hc
theorem kpC_b {w : World} {n₀ Bs Bn : Nat} (hn : n₀ ≤ w.heap.size) (h1 : Bs < w.heap.size) (h2 : Bn < w.heap.size) (W : World) (l : Nat) (o o' : Obj) (hl : w.heap.size ≤ l) (h : W.heap[l]? = some o) (h3 : o.isCells = false) (h4 : o.isWalk = false) : KpC n₀ Bs Bn W (W.putObj l o') :=
  ⟨belowK_b hn W l o o' hl h h3 h4, World.putObj_heap_other (by omega), World.putObj_heap_other (by omega)⟩
/-- What a round does: a page is put behind. -/
theorem put_step {w W w3 : World} {pre : List (Ck w)} {x : Ck w} {v : Value} {qs : List Pg} {g : Nat} (hv : Boxed W w.heap.size 22 v) (ho : OwnsP W (w.heap.size + 3) v qs) (hl : qs.length = pre.length) (hm : qs.map Pg.bs = pre.map (fun x => pad x.bs)) (hb : Below w.heap.size w W) (hsz : w.heap.size + 3 ≤ W.heap.size)
    (hg0 : g = W.heap.size) (hp : w3.ownsRow W.heap.size 5 1 (.slice (some ⟨g, 0, none⟩) 240 240) 240 (nums .u8 (pad x.bs))) (hb3 : Below W.heap.size W w3) (hn : (qs.length + 1) * 24 ≤ 140737488355328) :
    ∃ A' c' w5, (∀ ty, (Builtin.append_ #[22, 22] ty #[v, .slice (some ⟨w3.heap.size, 0, none⟩) 1 1]).run Tryd.prog (w3.alloc (.cells #[.slice (some ⟨g, 0, none⟩) 240 240] 24)) = .ok (.slice A' (qs.length + 1) c') w5) ∧
      w3.cell? ⟨w.heap.size, 0, none⟩ = some v ∧ (w3.alloc (.cells #[.slice (some ⟨g, 0, none⟩) 240 240] 24)).cell? ⟨w.heap.size, 0, none⟩ = some v ∧ w5.cell? ⟨w.heap.size, 0, none⟩ = some v ∧ w5.frozen? ⟨w.heap.size, 0, none⟩ = false ∧
      KeepsOthers W (w5.setCell ⟨w.heap.size, 0, none⟩ (.slice A' (qs.length + 1) c')) ∧ KpC w.heap.size (w.heap.size + 1) (w.heap.size + 1 + 1) W (w5.setCell ⟨w.heap.size, 0, none⟩ (.slice A' (qs.length + 1) c')) ∧ PutI w (pre ++ [x]) (w5.setCell ⟨w.heap.size, 0, none⟩ (.slice A' (qs.length + 1) c')) := by
  obtain ⟨w4, hw4, b4, f4, s4⟩ := made w3 #[.slice (some ⟨g, 0, none⟩) 240 240] 24
  have hv3 : Boxed w3 w.heap.size 22 v := keep_row hv hb3
  have hv4 : Boxed w4 w.heap.size 22 v := keep_row hv3 b4
  have ho4 := (ho.below hb3).below b4
  have hp4 : w4.ownsRow (w.heap.size + 3) 5 1 (sl ⟨some ⟨g, 0, none⟩, 240, 240, pad x.bs⟩) 240 (nums .u8 (pad x.bs)) := own_weaken (pw_own_below hp b4) hsz
  have hs3 := hb3.size
  obtain ⟨A', c', w5, happ, hown, hg⟩ := app_pg (p := ⟨some ⟨g, 0, none⟩, 240, 240, pad x.bs⟩) ho4.row (cell_row f4 rfl : w4.cell? ⟨w3.heap.size, 0, none⟩ = some (sl ⟨some ⟨g, 0, none⟩, 240, 240, pad x.bs⟩)) hn (by omega)
  have hrow : ∀ k, v.ownBlock = some k → w.heap.size + 3 ≤ k := fun k hk => own_base ho4.row k hk
  have hne : ∀ k, k < w.heap.size + 3 → some k ≠ v.ownBlock := fun k hk e => by have := hrow k e.symm; omega
  have hv5 : Boxed w5 w.heap.size 22 v := hv4.kept hg (hne _ (by omega))
  have ho5 : OwnsP w5 (w.heap.size + 3) (.slice A' (qs.length + 1) c') (qs ++ [⟨some ⟨g, 0, none⟩, 240, 240, pad x.bs⟩]) := ho4.app hp4 (by simpa using hown) hg
  have hlt4 : w.heap.size + 3 ≤ w4.heap.size := by omega
  have B5 : Below w.heap.size w4 w5 := (Below.refl _ w4).grown hg (by omega) (fun k hk => by have := hrow k hk; omega)
  have BW3 : Below w.heap.size W w3 := hb3.mono (by omega)
  have B34 : Below w.heap.size w3 w4 := b4.mono (by omega)
  have Bset : Below w.heap.size w5 (w5.setCell ⟨w.heap.size, 0, none⟩ (.slice A' (qs.length + 1) c')) := (Below.refl _ w5).setCell (p := ⟨w.heap.size, 0, none⟩) (Nat.le_refl _) _
  have BALL : Below w.heap.size W (w5.setCell ⟨w.heap.size, 0, none⟩ (.slice A' (qs.length + 1) c')) := ((BW3.trans B34).trans B5).trans Bset
  have keepAt : ∀ k, k < w.heap.size + 3 → k ≠ w.heap.size → (w5.setCell ⟨w.heap.size, 0, none⟩ (.slice A' (qs.length + 1) c')).heap[k]? = W.heap[k]? := by
    intro k hk hk0
    rw [Below.heap_setCell _ _ _ k hk0, hg.block k (by omega) (hne k hk), b4.block k (by omega), hb3.block k (by omega)]
  refine ⟨A', c', w5, by rw [hw4]; exact happ, hv3.cell, by rw [hw4]; exact hv4.cell, hv5.cell, hv5.frozen, ?_, ⟨BALL, keepAt _ (by omega) (by omega), keepAt _ (by omega) (by omega)⟩, ⟨⟨_, qs ++ [⟨some ⟨g, 0, none⟩, 240, 240, pad x.bs⟩], hv5.set _, ?_, ?_, ?_⟩, hb.trans BALL, by rw [World.size_setCell]; have := hg.size; omega⟩⟩
  · have k1 : KeepsOthers W w3 := ⟨hb3.size, fun k o hk _ => keep_row hk hb3⟩
    have k2 : KeepsOthers w3 w4 := ⟨b4.size, fun k o hk _ => keep_row hk b4⟩
    have k3 : KeepsOthers w4 w5 := KeepsOthers.of_grownBy hg fun j o ej hj => by
      obtain ⟨cells, hc⟩ := own_typed ho4.row j ej
      rw [hc] at hj
      cases hj
      rfl
    exact ((k1.trans k2).trans k3).trans (KeepsOthers.setCell _ _ _)
  · refine ⟨own_setCell ho5.row (Hlp.own_ne ho5.row (by show w.heap.size < w.heap.size + 3; omega)) _, fun p hp => own_setCell (ho5.pgs p hp) (Hlp.own_ne (ho5.pgs p hp) (by show w.heap.size < w.heap.size + 3; omega)) _⟩
  · rw [List.length_append, List.length_append, hl]; rfl
  · rw [List.map_append, List.map_append, hm]; rfl
theorem KpC.undrew {n B B' : Nat} {W W' : World} (h : KpC n B B' W.drew W') : KpC n B B' W W' := ⟨(below_drew (Below.refl _ _)).trans h.1, h.2.1, h.2.2⟩
theorem exec_app {t : TypeId} {ev : Operand → Value} {o : Oper} {w w' : World} {v u r : Value} (s x : Operand) (ho : o.op = .call { callee := .builtin .append, args := #[s, x], argTypes := #[t, t] }) (hs : ev s = v) (hx : ev x = u)
    (hr : ∀ ty, (Builtin.append_ #[t, t] ty #[v, u]).run Tryd.prog w = .ok r w') : (execOp ev o).run Tryd.prog w = .ok (.value r) w' := by
  unfold execOp
  simp only [ho, resolve, invoke, builtin, Sem.run_bind, Sem.run_pure, Result.andThen_ok, List.map_toArray, List.map_cons, List.map_nil, hs, hx, hr]
/-- An append in a drawn region of a round. -/
theorem app_in {l n : Nat} {o : Oper} {a : Act} {w w' : World} {K : Act → World → Prop} {Q : Exit → Act → World → Prop} {c : Bool} {R : Prop} {v u r : Value} (hc : c = true) (s x : Operand) (ho : o.op = .call { callee := .builtin .append, args := #[s, x], argTypes := #[22, 22] }) (hs : a.eval s = v) (hx : a.eval x = u)
    (hr : ∀ ty, (Builtin.append_ #[22, 22] ty #[v, u]).run Tryd.prog w = .ok r w') (hK : K (a.put o.dst r) w') : if c = true then Oper.wpIn (Fence.wide.inRound l) n Tryd.prog o a w K Q else R := by
  rw [if_pos hc]
  refine ⟨fun _ _ => trivial, ?_⟩
  rw [Fence.inRound_round, Oper.semAt_some l _ o (fun d e => by rw [ho] at e; cases e), exec_app s x ho hs hx hr]
  exact hK
set_option maxRecDepth 100000 in
set_option maxHeartbeats 3200000 in
theorem put_any (A : Option Addr) (n c : Nat) (cs : List Int) (w : World) (HR : ReadsInt w .u8 A n cs) (hnc : n ≤ c) (hn : n ≤ 140737488351232) :
    Calls Tryd.prog 12 #[.slice A n c] w fun e w' => ∃ A' c' qs, e = .returned (.slice A' (np n) c') ∧ qs.length = np n ∧ OwnsP w' w.heap.size (.slice A' (np n) c') qs ∧ qs.map Pg.bs = pgs cs ∧ Below w.heap.size w w' := by
  have R0 := Lib.hid HR
  have HN := Lib.hid hn
  refine (callsIn_wide (n := 3)).1 ?_
  refine callsIn_of_wp_marks Tryd.func12 rfl trivial ?_ rfl
  simp only [Tryd.ntmps12, List.size_toArray, List.length_cons, List.length_nil, Nat.reduceAdd, Nat.reduceSub, Array.replicate_succ, Array.replicate_zero, List.push_toArray, List.append_toArray, List.nil_append, List.cons_append]
  gi_wp2_with (refine ⟨trivial, ?_⟩; gi_at_call 19; refine (chunk_in Fence.wide 2 trivial rfl _ _ _ _).mono ?_; rintro e w' ⟨rfl, rfl⟩)
  obtain ⟨W0, hW0⟩ : ∃ W0, ((w.alloc (.cells #[.slice none 0 0] 22)).alloc (.cells #[.slice A n c] 24)).alloc (.cells #[.int .i64 240] 3) = W0 := ⟨_, rfl⟩
  rw [hW0]
  have z0 : W0.heap.size = w.heap.size + 3 := by rw [← hW0]; simp
  have hb0 : Below w.heap.size w W0 := by rw [← hW0]; exact (((Below.refl _ w).alloc (Nat.le_refl _) _).alloc (by simp) _).alloc (by simp; omega) _
  have bO : Boxed W0 w.heap.size 22 (.slice none 0 0) := by rw [← hW0]; exact ((Boxed.new w 22 _).alloc _).alloc _
  have bS : Boxed W0 (w.heap.size + 1) 24 (.slice A n c) := by
    have h := (Boxed.new (w.alloc (.cells #[.slice none 0 0] 22)) 24 (.slice A n c)).alloc (.cells #[.int .i64 240] 3)
    rw [World.size_alloc, hW0] at h
    exact h
  have bN : Boxed W0 (w.heap.size + 1 + 1) 3 (.int .i64 240) := by
    have h := Boxed.new ((w.alloc (.cells #[.slice none 0 0] 22)).alloc (.cells #[.slice A n c] 24)) 3 (.int .i64 240)
    rw [World.size_alloc, World.size_alloc, hW0] at h
    exact h
  clear hW0
  refine wpIn_rangeFunc_ownG rfl (by omega) (gf := 28) (lb := #[.pointer (some ⟨w.heap.size + 1, 0, none⟩), .pointer (some ⟨w.heap.size + 1 + 1, 0, none⟩)]) rfl trivial (enters_of Tryd.func28 (by kernel_rfl) rfl)
    (chunk_stops 2 (by omega) w.heap.size (w.heap.size + 1) (w.heap.size + 1 + 1) A n c cs w W0 hb0 HR hnc hn bS.cell bN.cell) (fun h k => KpC.trans h k) (kpC_b (by omega) (by omega) (by omega)) (Below.refl _ _) (fun _ => rfl)
    (PutI w) (fun _ _ _ => False) (putI_own w _ (by omega)) (fun _ _ _ _ _ hs _ _ => hs) ⟨⟨_, [], bO, OwnsP.nil _ _, rfl, rfl⟩, hb0, by omega⟩
    (fun x => { tmps := #[.slice A n c, undef, .slice none 0 0, .pointer (some ⟨w.heap.size, 0, none⟩), .slice x.1.ad x.1.n x.1.n, .slice A n c, .func (.func 28) #[] #[.pointer (some ⟨w.heap.size + 1, 0, none⟩), .pointer (some ⟨w.heap.size + 1 + 1, 0, none⟩)], .slice x.1.ad x.1.n x.1.n, undef, undef, undef, undef, undef, undef], defers := [] }) ?assign ?body ?done ?stop
  case assign =>
    intro l x W K hK
    gi_wp2
    exact hK
  case body =>
    rintro l pre x W ⟨⟨v, qs, hv, ho, hl, hm⟩, hb, hsz⟩ hlt
    have hc := hv.cell
    have hmx : Tryd.prog.follows .mixedOrders = true := by kernel_rfl
    have XR := Lib.hid (x.2.2.below (below_drew hb))
    have VV := Lib.hid hv
    have OO := Lib.hid ho
    have PP := Lib.hid (And.intro hl hm)
    have BB := Lib.hid hb
    have SZ := Lib.hid (show w.heap.size + 3 ≤ W.drew.heap.size from hsz)
    have QN := Lib.hid (show (qs.length + 1) * 24 ≤ 140737488355328 by have := HN.out; unfold np at hlt; omega)
    clear hv ho hl hm hb hlt hsz
    gi_wp2
    refine wpIn_region_any hmx ?_
    change wpAnyIn _ _ _ _ _ _ _ _ _ (World.drew _)
    refine wpAnyIn_ready (rs := [0, 1]) (by kernel_rfl) (by simp) ?_
    refine AllReadyIn.cons rfl (fun K hK => ?_) ?_
    · skip
      go_simp
      refine hK _ _ ?_
      clear hK K
      refine wpAnyIn_ready (rs := [1]) (by kernel_rfl) (by simp) ?_
      refine AllReadyIn.cons rfl (fun K hK => ?_) ?_
      · skip
        go_simp
        refine hK _ _ ?_
        clear hK K
        refine wpAnyIn_ready (rs := [2]) (by kernel_rfl) (by simp) ?_
        refine AllReadyIn.cons rfl (fun K hK => ?_) ?_
        · skip
          go_simp
          gi_wp2_with (refine ⟨trivial, ?_⟩; gi_at_call 20; refine (CallsIn.inRound l (callsIn_wide.2 (padded_at x.1.bs x.1.ad x.1.n x.1.n _ XR.out x.2.1))).mono ?_; rintro e w3 ⟨rfl, hp, hb3⟩; obtain ⟨A', c', w5, happ, c3, c4, c5, f5, hko, hkp, hI⟩ := put_step (W := W.drew) (g := W.heap.size) VV.out ⟨OO.out.row, OO.out.pgs⟩ PP.out.1 PP.out.2 (below_drew BB.out) SZ.out rfl hp hb3 QN.out; clear hp hb3)
          refine wpAnyIn_ready (rs := [3]) (by kernel_rfl) (by simp) ?_
          refine AllReadyIn.cons rfl (fun K hK => ?_) ?_
          · skip
            go_simp
            refine hK _ _ ?_
            clear hK K
            refine wpAnyIn_ready (rs := [4]) (by kernel_rfl) (by simp) ?_
            refine AllReadyIn.cons rfl (fun K hK => ?_) ?_
            · skip
              refine app_in (by rfl) _ _ rfl rfl rfl happ (hK _ _ ?_)
              clear hK K
              refine wpAnyIn_ready (rs := [5]) (by kernel_rfl) (by simp) ?_
              refine AllReadyIn.cons rfl (fun K hK => ?_) ?_
              · skip
                go_simp
                refine hK _ _ ?_
                clear hK K
                refine wpAnyIn_done (by kernel_rfl) ?_ _
                gi_wp2
                exact ⟨((KeepsOthers.drew W).trans hko).from _, hkp.undrew, hI⟩
              exact AllReadyIn.nil
            exact AllReadyIn.nil
          exact AllReadyIn.nil
        exact AllReadyIn.nil
      exact AllReadyIn.nil
    refine AllReadyIn.cons rfl (fun K hK => ?_) ?_
    · skip
      go_simp
      refine hK _ _ ?_
      clear hK K
      refine wpAnyIn_ready (rs := [0, 2]) (by kernel_rfl) (by simp) ?_
      refine AllReadyIn.cons rfl (fun K hK => ?_) ?_
      · skip
        go_simp
        refine hK _ _ ?_
        clear hK K
        refine wpAnyIn_ready (rs := [2]) (by kernel_rfl) (by simp) ?_
        refine AllReadyIn.cons rfl (fun K hK => ?_) ?_
        · skip
          go_simp
          gi_wp2_with (refine ⟨trivial, ?_⟩; gi_at_call 20; refine (CallsIn.inRound l (callsIn_wide.2 (padded_at x.1.bs x.1.ad x.1.n x.1.n _ XR.out x.2.1))).mono ?_; rintro e w3 ⟨rfl, hp, hb3⟩; obtain ⟨A', c', w5, happ, c3, c4, c5, f5, hko, hkp, hI⟩ := put_step (W := W.drew) (g := W.heap.size) VV.out ⟨OO.out.row, OO.out.pgs⟩ PP.out.1 PP.out.2 (below_drew BB.out) SZ.out rfl hp hb3 QN.out; clear hp hb3)
          refine wpAnyIn_ready (rs := [3]) (by kernel_rfl) (by simp) ?_
          refine AllReadyIn.cons rfl (fun K hK => ?_) ?_
          · skip
            go_simp
            refine hK _ _ ?_
            clear hK K
            refine wpAnyIn_ready (rs := [4]) (by kernel_rfl) (by simp) ?_
            refine AllReadyIn.cons rfl (fun K hK => ?_) ?_
            · skip
              refine app_in (by rfl) _ _ rfl rfl rfl happ (hK _ _ ?_)
              clear hK K
              refine wpAnyIn_ready (rs := [5]) (by kernel_rfl) (by simp) ?_
              refine AllReadyIn.cons rfl (fun K hK => ?_) ?_
              · skip
                go_simp
                refine hK _ _ ?_
                clear hK K
                refine wpAnyIn_done (by kernel_rfl) ?_ _
                gi_wp2
                exact ⟨((KeepsOthers.drew W).trans hko).from _, hkp.undrew, hI⟩
              exact AllReadyIn.nil
            exact AllReadyIn.nil
          exact AllReadyIn.nil
        exact AllReadyIn.nil
      refine AllReadyIn.cons rfl (fun K hK => ?_) ?_
      · skip
        go_simp
        gi_wp2_with (refine ⟨trivial, ?_⟩; gi_at_call 20; refine (CallsIn.inRound l (callsIn_wide.2 (padded_at x.1.bs x.1.ad x.1.n x.1.n _ XR.out x.2.1))).mono ?_; rintro e w3 ⟨rfl, hp, hb3⟩; obtain ⟨A', c', w5, happ, c3, c4, c5, f5, hko, hkp, hI⟩ := put_step (W := W.drew) (g := W.heap.size) VV.out ⟨OO.out.row, OO.out.pgs⟩ PP.out.1 PP.out.2 (below_drew BB.out) SZ.out rfl hp hb3 QN.out; clear hp hb3)
        refine wpAnyIn_ready (rs := [0, 3]) (by kernel_rfl) (by simp) ?_
        refine AllReadyIn.cons rfl (fun K hK => ?_) ?_
        · skip
          go_simp
          refine hK _ _ ?_
          clear hK K
          refine wpAnyIn_ready (rs := [3]) (by kernel_rfl) (by simp) ?_
          refine AllReadyIn.cons rfl (fun K hK => ?_) ?_
          · skip
            go_simp
            refine hK _ _ ?_
            clear hK K
            refine wpAnyIn_ready (rs := [4]) (by kernel_rfl) (by simp) ?_
            refine AllReadyIn.cons rfl (fun K hK => ?_) ?_
            · skip
              refine app_in (by rfl) _ _ rfl rfl rfl happ (hK _ _ ?_)
              clear hK K
              refine wpAnyIn_ready (rs := [5]) (by kernel_rfl) (by simp) ?_
              refine AllReadyIn.cons rfl (fun K hK => ?_) ?_
              · skip
                go_simp
                refine hK _ _ ?_
                clear hK K
                refine wpAnyIn_done (by kernel_rfl) ?_ _
                gi_wp2
                exact ⟨((KeepsOthers.drew W).trans hko).from _, hkp.undrew, hI⟩
              exact AllReadyIn.nil
            exact AllReadyIn.nil
          exact AllReadyIn.nil
        refine AllReadyIn.cons rfl (fun K hK => ?_) ?_
        · skip
          go_simp
          refine hK _ _ ?_
          clear hK K
          refine wpAnyIn_ready (rs := [0]) (by kernel_rfl) (by simp) ?_
          refine AllReadyIn.cons rfl (fun K hK => ?_) ?_
          · skip
            go_simp
            refine hK _ _ ?_
            clear hK K
            refine wpAnyIn_ready (rs := [4]) (by kernel_rfl) (by simp) ?_
            refine AllReadyIn.cons rfl (fun K hK => ?_) ?_
            · skip
              refine app_in (by rfl) _ _ rfl rfl rfl happ (hK _ _ ?_)
              clear hK K
              refine wpAnyIn_ready (rs := [5]) (by kernel_rfl) (by simp) ?_
              refine AllReadyIn.cons rfl (fun K hK => ?_) ?_
              · skip
                go_simp
                refine hK _ _ ?_
                clear hK K
                refine wpAnyIn_done (by kernel_rfl) ?_ _
                gi_wp2
                exact ⟨((KeepsOthers.drew W).trans hko).from _, hkp.undrew, hI⟩
              exact AllReadyIn.nil
            exact AllReadyIn.nil
          exact AllReadyIn.nil
        exact AllReadyIn.nil
      exact AllReadyIn.nil
    exact AllReadyIn.nil
  case done =>
    rintro D ys W hD hys ⟨⟨v, qs, hv, ho, hl, hm⟩, hB, hsz⟩ hK
    have hc := hv.cell
    gi_wp2
    refine ⟨by simp, .inl ⟨_, _, rfl, run_takeDeferred hK, ?_⟩⟩
    obtain ⟨A', c', e, -⟩ := ho.reads
    have hyl : ys.length = np n := by
      have h := congrArg List.length hys
      rw [List.length_map, List.length_map, List.length_range] at h
      exact h
    rw [hl, hyl] at e
    subst e
    refine ⟨_, results_tmp rfl _ _ _, A', c', qs, rfl, hl.trans hyl, ⟨own_weaken (ownsRow_putObj ho.row _ hK rfl) (by omega), fun p hp => own_weaken (ownsRow_putObj (ho.pgs p hp) _ hK rfl) (by omega)⟩, ?_, hB.trans (belowK_b (w := w) (Nat.le_refl _) W D _ _ (by omega) hK rfl rfl)⟩
    rw [hm, show (fun x : Ck w => pad x.bs) = pad ∘ Ck.bs from rfl, ← List.map_map, hys, List.map_map]
    unfold pgs
    rw [R0.out.1]
    apply List.map_congr_left
    intro k hk
    have hk' := List.mem_range.1 hk
    exact pad_chunk cs k (by rw [R0.out.1]; unfold np at hk'; omega)
  case stop =>
    rintro D c pre W _ _ h _
    exact h.elim
end Go.Proofs.YtnnclfaibcedoaaDoor.Cnt
