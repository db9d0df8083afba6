/- bytes.HasPrefix, where it is one: by its contract. -/
import Derived.Test.YtdekplalhfpooaaDoorNodP
import Derived.Test.YtdekplalhfpooaaDoorTrm
set_option linter.unusedVariables false
set_option linter.unusedSimpArgs false
namespace Go.Proofs.YtdekplalhfpooaaDoor.Trm
open Go Go.RowKit Go.Proofs.YtdekplalhfpooaaDoorW.PrintWords Go.Proofs.YtdekplalhfpooaaDoorW.PrintLast Go.Proofs.YtdekplalhfpooaaDoorW.PrintMore Base Odr Hlp Nod

set_option maxRecDepth 100000 in
theorem prefix_yes (xs ys z : List Int) (A1 A2 : Option Addr) (n1 c1 n2 c2 : Nat) (w : World) (H1 : ReadsInt w .u8 A1 n1 xs) (H2 : ReadsInt w .u8 A2 n2 ys) (hx : xs = ys ++ z) (hc : n1 ≤ c1) (hw : ∀ x ∈ ys, (Lit.int .u8 x).wf = true) :
    Calls Tryd.prog 9 #[.slice A1 n1 c1, .slice A2 n2 c2] w fun e w' => e = .returned (.bool true) ∧ w = w' := by
  have hl1 := H1.1
  have hl2 := H2.1
  rw [hx, List.length_append] at hl1
  have hle : (n2 : Int) ≤ (n1 : Int) := by omega
  have hd : decide ((n2 : Int) ≤ (n1 : Int)) = true := decide_eq_true hle
  have hcc : (n2 : Int) ≤ (c1 : Int) := by omega
  have R1 := Lib.hid (show ReadsInt w .u8 A1 n2 ys by have h := H1.take_ n2 (by omega); rwa [hx, List.take_left' hl2] at h)
  have R2 := Lib.hid H2
  have HW := Lib.hid hw
  clear H1 H2 hx hl1 hl2 hw hc
  go_enter Tryd.func9, Tryd.ntmps9
  go_wp2_with fail
  refine (equal_same ys _ R1.out R2.out HW.out).mono ?_; rintro e w' ⟨rfl, rfl⟩
  go_wp2_with fail
  go_ret
  exact ⟨rfl, rfl⟩
end Go.Proofs.YtdekplalhfpooaaDoor.Trm
