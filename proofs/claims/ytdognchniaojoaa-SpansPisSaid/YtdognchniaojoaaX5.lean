/- A law of spans, as it is given, without a condition. -/
import Derived.Test.YtdognchniaojoaaW7
import Derived.Test.YtdognchniaojoaaRows
set_option linter.all false
namespace Go.Proofs.Ytdognchniaojoaa
open Go Go.Vx Go.RowKit
set_option maxRecDepth 100000

theorem own5 : ownKnob Try.prog.godebug = none := by kernel_rfl
theorem laid5 : laidOutB Try.prog = true := by kernel_rfl

theorem spansPis_lifted (os : Os) (started : os.Started) (H : Type) (enc : TypeId × Value → H) :
    ReturnsInHanded {} Try.checked os 4 .any (Rows.spansPisSpec.pre6 enc Try.prog Try.f4 Rows.spansPisRow.domain false) (Rows.spansPisSpec.post enc Try.prog Try.f4 false true false false) :=
  law_lifted (C := Try.checked) (tb := 4) own5 started (by kernel_rfl) Try.func4 laid5
    (ChangeSpec.witness6 (enc := enc) (C := Try.checked) false ⟨#[], #[.agg #[.int .i64 0, .int .i64 0]], []⟩ 8 (by kernel_rfl) (by kernel_rfl) (by kernel_rfl) (by kernel_rfl))
    (by kernel_rfl) (by kernel_rfl) (by kernel_rfl) (by kernel_rfl) rfl (fun ds h => match ds, h with | [_], _ => ⟨rfl, rfl, rfl⟩) lawPis

theorem spansPis_holds : Rows.SpansPisSaid :=
  OpenClaim.holds_of_wide 4 Try.f4 rfl rfl rfl rfl rfl rfl rfl ⟨rfl, rfl, rfl, rfl, rfl⟩ rfl rfl rfl rfl rfl (by kernel_rfl) Try.func4 (by kernel_rfl)
    (of_decide_eq_true (by kernel_rfl)) (by unfold Func.isWrapper; first | (rw [if_pos (by decide +kernel)]; kernel_rfl) | (rw [if_neg (by decide +kernel)]; exact ⟨rfl, rfl⟩))
    (fun os started H enc _ => spansPis_lifted os started H enc)

end Go.Proofs.Ytdognchniaojoaa
