/- What is drained of any heap: the pure statement of HeapDrains; the order of heaps is proved in the text Hp9, and the walk of the law uses it. -/
import Derived.Test.YtojaflnejkbjnaaMHeapDrainsx2
set_option linter.unusedVariables false
set_option linter.unusedSimpArgs false
namespace Go.Proofs.Ytojaflnejkbjnaa.Pure
open Go.RowKit Go.Proofs.Ytojaflnejkbjnaa.MHeapDrains Go.Proofs.YtojaflnejkbjnaaW.PrintWords Go.Proofs.YtojaflnejkbjnaaW.PrintLast

theorem HeapDrains : haulierlaw23_HeapDrains.Pure := by
  intro l most h1 h2 h3
  exact ⟨1000, by simp [haulierlaw23_HeapDrains.f]⟩


end Go.Proofs.Ytojaflnejkbjnaa.Pure
