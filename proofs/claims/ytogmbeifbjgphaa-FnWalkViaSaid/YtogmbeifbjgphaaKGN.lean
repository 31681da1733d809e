/- impl.GraphNear of a node that no edge joins: no node. -/
import Derived.Test.YtogmbeifbjgphaaKB17
import Derived.Test.YtogmbeifbjgphaaKB2
import Derived.Test.YtogmbeifbjgphaaKB6
import Derived.Test.YtogmbeifbjgphaaKB20
namespace Go.Proofs.Ytogmbeifbjgphaa.R
open Go.RowKit Go.Proofs.YtogmbeifbjgphaaV.PrintWords Go.Proofs.YtogmbeifbjgphaaV.PrintLast Go.Proofs.YtogmbeifbjgphaaV.PrintMore Go.Proofs.Ytogmbeifbjgphaa.M
set_option linter.unusedVariables false
set_option linter.unusedSimpArgs false
attribute [local go_sem high] eqN eqE
theorem insSort0 (w : World) : Calls Try.prog 207 #[.slice none 0 0, .int .i64 0, .int .i64 0, .func (.func 114) #[] #[]] w fun e w' => e = .returned (.tuple #[]) ∧ w = w' := by
  go_enter Try.func207, Try.ntmps207
  go_wp2_with (fail)
  go_loopw [8, 9] (fun s _ wr => s = .int .i64 1 ∧ w = wr) (fun _ _ _ => 0)
  case atStart => exact ⟨rfl, rfl⟩
  case round =>
    obtain ⟨rfl, rfl⟩ := hrel
    go_wp2_with (fail)
    go_end0
    exact ⟨rfl, rfl⟩
theorem pdq0 (k : Int) (w : World) : Calls Try.prog 176 #[.slice none 0 0, .int .i64 0, .int .i64 0, .int .i64 k, .func (.func 114) #[] #[]] w fun e w' => e = .returned (.tuple #[]) ∧ w = w' := by
  go_enter Try.func176, Try.ntmps176
  go_wp2_with (fail)
  go_loopw [1, 2, 3, 10, 11, 12, 13, 14, 15, 16, 17, 18, 19, 20] (fun s1 s2 s3 _ _ _ _ _ _ _ _ _ _ _ wr => s1 = .int .i64 0 ∧ s2 = .int .i64 0 ∧ w = wr) (fun _ _ _ _ _ _ _ _ _ _ _ _ _ _ _ => 0)
  case atStart => exact ⟨rfl, rfl, rfl⟩
  case round =>
    obtain ⟨rfl, rfl, rfl⟩ := hrel
    go_wp2_with (first | (go_at_call 207; go_must ((refine (insSort0 _).mono ?_); rintro e u_ ⟨rfl, rfl⟩)))
    exact bodyPost_ret (results_none rfl _ _ _) rfl ⟨rfl, rfl⟩
set_option maxRecDepth 100000 in
theorem bitsLen64_0 (w : World) : Calls Try.prog 216 #[.int .u64 0] w fun e w' => ∃ k, e = .returned (.int .i64 k) ∧ w = w' := by
  go_enter Try.func216, Try.ntmps216
  go_wp2_with (fail)
  go_ret
  exact ⟨_, rfl, rfl⟩
theorem bitsLen_0 (w : World) : Calls Try.prog 177 #[.int .u64 0] w fun e w' => ∃ k, e = .returned (.int .i64 k) ∧ w = w' := by
  go_enter Try.func177, Try.ntmps177
  go_wp2_with (first | (go_at_call 216; go_must ((refine (bitsLen64_0 _).mono ?_); rintro e u_ ⟨k, rfl, rfl⟩)))
  go_ret
  exact ⟨_, rfl, rfl⟩
theorem sortFunc0 (w : World) : Calls Try.prog 113 #[.slice none 0 0, .func (.func 114) #[] #[]] w fun e w' => e = .returned (.tuple #[]) ∧ w = w' := by
  go_enter Try.func113, Try.ntmps113
  go_wp2_with (first | (go_at_call 177; go_must ((refine (bitsLen_0 _).mono ?_); rintro e u_ ⟨k, rfl, rfl⟩)) | (go_at_call 176; go_must ((refine (pdq0 _ _).mono ?_); rintro e u_ ⟨rfl, rfl⟩)))
  go_end0
  exact ⟨rfl, rfl⟩
theorem compact0 (w : World) : Calls Try.prog 115 #[.slice none 0 0] w fun e w' => e = .returned (.slice none 0 0) ∧ w = w' := by
  go_enter Try.func115, Try.ntmps115
  go_wp2_with (fail)
  go_ret
  exact ⟨rfl, rfl⟩
end Go.Proofs.Ytogmbeifbjgphaa.R
