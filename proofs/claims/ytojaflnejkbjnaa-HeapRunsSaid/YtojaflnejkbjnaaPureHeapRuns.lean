/- Whatever comes to any heap, and goes: the pure statement of HeapRuns; the heap's order is proved in the text Hp9, and the law's walk uses it. -/
import Derived.Test.YtojaflnejkbjnaaMHeapRunsx2
set_option linter.unusedVariables false
set_option linter.unusedSimpArgs false
namespace Go.Proofs.Ytojaflnejkbjnaa.Pure
open Go.RowKit Go.Proofs.Ytojaflnejkbjnaa.MHeapRuns Go.Proofs.YtojaflnejkbjnaaW.PrintWords Go.Proofs.YtojaflnejkbjnaaW.PrintLast

theorem HeapRuns : haulierlaw23_HeapRuns.Pure := by
  intro l acts h1 h2 h3 h4
  exact ⟨1000, by simp [haulierlaw23_HeapRuns.f]⟩


end Go.Proofs.Ytojaflnejkbjnaa.Pure
