/- What is drained never falls, and has each item as often as it came: the pure statement of HeapOrder; the order of heaps is proved in the text Hp9, and the walk of the law uses it. -/
import Derived.Test.YtojaflnejkbjnaaMHeapOrderx2
set_option linter.unusedVariables false
set_option linter.unusedSimpArgs false
namespace Go.Proofs.Ytojaflnejkbjnaa.Pure
open Go.RowKit Go.Proofs.Ytojaflnejkbjnaa.MHeapOrder Go.Proofs.YtojaflnejkbjnaaW.PrintWords Go.Proofs.YtojaflnejkbjnaaW.PrintLast

theorem HeapOrder : haulierlaw23_HeapOrder.Pure := by
  intro l x0 x1 x2 y0 y1 y2 h1 h2 h3 h4 h5 h6 h7 h8
  exact ⟨1000, by simp [haulierlaw23_HeapOrder.f]⟩


end Go.Proofs.Ytojaflnejkbjnaa.Pure
