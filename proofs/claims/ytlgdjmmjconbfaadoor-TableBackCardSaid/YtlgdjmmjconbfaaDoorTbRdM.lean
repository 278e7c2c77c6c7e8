/- Tables that come in. -/
import Derived.Test.YtlgdjmmjconbfaaDoorMeG
import Derived.Test.YtlgdjmmjconbfaaDoorTbQM
namespace Go.Proofs.YtlgdjmmjconbfaaDoor
set_option linter.unusedVariables false
set_option linter.unusedSimpArgs false
set_option maxHeartbeats 8000000
open Go.RowKit
set_option maxRecDepth 4000

theorem rd_tab : RdP Tryd.prog 44 Tab.cells in32 :=
  (rd_struct (T := tt) tt_ok rfl rfl rfl (rdf_cons r_int (rdf_cons rd_arcs (rdf_cons rd_intW rdf_nil)))).map (fun d => ⟨d.1, d.2.1, d.2.2.1⟩) (fun _ => rfl) fun d h => h.2.1.2
theorem wf_u8 {z : Int} (h : (Lit.int .u8 z).wf = true) : 0 ≤ z ∧ z < 256 := by
  have e1 : IntKind.u8.min = 0 := rfl
  have e2 : IntKind.u8.max = 255 := rfl
  simp only [Lit.wf, Bool.and_eq_true, decide_eq_true_eq, e1, e2] at h
  omega
end Go.Proofs.YtlgdjmmjconbfaaDoor
