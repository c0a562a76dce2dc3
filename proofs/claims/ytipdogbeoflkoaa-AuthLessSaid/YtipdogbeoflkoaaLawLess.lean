/-
  The law AuthLess of package legatelaw15 returns true for every input, and leaves its arguments as they were. No condition beyond the row's own.
-/
import Derived.Test.YtipdogbeoflkoaaRows
import Derived.Test.YtipdogbeoflkoaaR2
import Derived.Test.YtipdogbeoflkoaaEngP
import Derived.Test.YtipdogbeoflkoaaEngJ
namespace Go.Proofs.Ytipdogbeoflkoaa
open Go.Eng Go.ChangeShapes Go.WideShapes Go.ChangeAt Go.RowKit
theorem Try.own : ownKnob Try.prog.godebug = none := by kernel_rfl
theorem Try.laidOut : laidOutB Try.prog = true := by kernel_rfl
theorem aut : AuT Try.prog 27 3 23 9 := ⟨by kernel_rfl, Try.underlying3, Try.underlying23, Try.underlying9, by kernel_rfl⟩
set_option maxRecDepth 100000 in
theorem AuthLess_lifted (os : Os) (started : os.Started) (H : Type) (enc : TypeId × Value → H) :
    ReturnsInHanded {} Try.checked os 5 .any (Rows.authLessSpec.pre6 enc Try.prog Try.f5 Rows.authLessRow.domain false) (Rows.authLessSpec.post enc Try.prog Try.f5 false true false false) := by
  refine returnsInHanded_of_change (C := Try.checked) Try.own started (by kernel_rfl) Try.func5
    (ChangeSpec.witness6 (enc := enc) (C := Try.checked) false ⟨#[], #[.agg #[(.int .i64 (0)), (.slice none 0 0)], (.int .i64 (0))], []⟩ 8 (by kernel_rfl) (by kernel_rfl) (by kernel_rfl) (by kernel_rfl)) ?_
  intro W base args ds gs before hval0 hW hcnd _
  have hval : ∀ (j : Nat) t v, Try.f5.params[j]? = some t → args[j]? = some v → Value.okWide Try.prog W .any base t v := hval0
  have hW' := hW
  obtain ⟨p, q, hA0, hV, rfl, hfz, hnd⟩ := hW
  have hA : DataW.TrodAll enc Try.prog W 0 (fun _ => true) true Try.f5.params.toList args.toList ds p := hA0
  rw [Try.params5] at hA hval
  obtain ⟨v0, v1, d0, d1, p0, p1, rfl, rfl, rfl, h0, h1⟩ := trodAll_two hA
  obtain ⟨rfl, rfl⟩ := trodVars_none hV
  obtain ⟨x0, r0⟩ := arg_Au aut (ts := [27, 3, 23, 9]) (by kernel_rfl) (by decide) Try.underlying27 (hval 0 27 v0 rfl rfl) h0
  obtain ⟨n1, rfl, rfl, rfl, w1⟩ := open_int Try.underlying3 (hval 1 3 v1 rfl rfl) h1
  refine (AuthLess_ok x0 n1 W Univ v0 r0).mono fun e W' ⟨v, he, hk, hv⟩ => ?_
  subst hv
  exact ⟨_, he, law_post Try.laidOut (of_decide_eq_true (by kernel_rfl)) rfl (tb := 4) (by kernel_rfl) Try.underlying4 rfl hW' hk⟩
theorem authLess_holds : Rows.AuthLessSaid :=
  OpenClaim.holds_of_wide 5 Try.f5 rfl rfl rfl rfl rfl rfl rfl ⟨rfl, rfl, rfl, rfl, rfl⟩ rfl rfl rfl rfl rfl (by kernel_rfl) Try.func5 (by kernel_rfl)
    (of_decide_eq_true (by kernel_rfl)) (by unfold Func.isWrapper; first | (rw [if_pos (by decide +kernel)]; kernel_rfl) | (rw [if_neg (by decide +kernel)]; exact ⟨rfl, rfl⟩))
    (fun os started H enc _ => AuthLess_lifted os started H enc)
end Go.Proofs.Ytipdogbeoflkoaa
