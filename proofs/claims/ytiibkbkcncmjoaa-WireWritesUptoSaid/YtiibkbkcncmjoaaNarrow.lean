/-
  Within a region that draws its order the condition on the world may be made stronger from here on. No condition: over any program.
-/
import Derived.Deep.RegionHeld3
namespace Go.Proofs.Ytiibkbkcncmjoaa
set_option linter.unusedVariables false
/-- the condition made stronger from here on -/
theorem narrow_at {P : Program} {ops : Array Oper} {Q : Exit → Act → World → Prop} {md : Region.Mode} {S S' : World → Prop} (hs : ∀ w, S' w → S w) : ∀ {fuel : Nat} {listed : Array Bool} {a : Act} {w : World}, wpAnyH P md ops Q S' fuel listed a w → wpAnyH P md ops Q S fuel listed a w
  | 0, _, _, _, h => h
  | _ + 1, _, _, _, h => ⟨h.1, fun i hi => wpOp_mono (fun _ _ h' => ⟨hs _ h'.1, narrow_at hs h'.2⟩) (h.2 i hi)⟩
end Go.Proofs.Ytiibkbkcncmjoaa
