/- The law of tweaks, over lists. -/
import Derived.Test.YtoimllmmlbehgaaE10C
import Derived.Test.YtoimllmmlbehgaaXn
import Derived.Test.YtoimllmmlbehgaaPo
set_option linter.unusedVariables false
set_option linter.unusedSimpArgs false
namespace Go.Proofs.Ytoimllmmlbehgaa
open Go.RowKit
set_option maxRecDepth 100000 in
theorem xts_awakeT : chatelainelaw10_awake 300 = some true := by decide +kernel
theorem chatelainelaw10_XtsTweaks_true (key : List UInt8) (_ : ∀ x ∈ key, ty8.has x) (number : Int) (_ : r64 number) (block : Int) (_ : r64 block) : ∃ Fu, chatelainelaw10_XtsTweaks Fu key number block = some true := by
  refine ⟨300, ?_⟩
  unfold chatelainelaw10_XtsTweaks chatelainelaw10_right
  refine (bnd_eq xts_awakeT _).trans ?_
  rw [if_neg (by decide)]
  simp only [Option.bind_some]
  by_cases h : key.length = 32 ∨ key.length = 64
  · have hk : (key.drop (key.length / 2)).length = 16 ∨ (key.drop (key.length / 2)).length = 32 := by rw [List.length_drop]; omega
    obtain ⟨m, hm, hw, hm20⟩ := sched_len' hk
    rw [if_neg (by simp; omega)]
    refine (bnd_eq (pXNew h) _).trans ?_
    dsimp only
    rw [if_neg (by decide)]
    refine (bnd_eq (pTweak hw hm20 number block) _).trans ?_
    by_cases hb : 0 ≤ number ∧ number ≤ 4611686018427387904 ∧ 0 ≤ block ∧ block < 256
    · rw [if_pos hb, if_neg (by simp; omega)]
      refine (bnd_eq (x := true) ?_ _).trans rfl
      rw [if_pos rfl]
      refine (bnd_eq (rTweak h number block (by omega) (by omega) hm) _).trans ?_
      simp
    · rw [if_neg hb, if_pos (by simp; omega)]
      rfl
  · rw [if_pos (by simp; omega)]
end Go.Proofs.Ytoimllmmlbehgaa
