/- How a row of calls comes in. -/
import Derived.Test.YtneppenmhbjfkaaRk
import Derived.Test.YtneppenmhbjfkaaPHx0
namespace Go.Proofs.Ytneppenmhbjfkaa.Ar
open Go Go.RowKit Go.Proofs.Ytneppenmhbjfkaa.PH
open Go.Proofs.YtneppenmhbjfkaaW.PrintWords (Kd)

theorem op25 : Rk.Opens k25 [.int .i64, .int .i64, .int .i64, .int .u64, .int .u64] (fun x : S25 => (Lit.int .i64 x.f0).wf = true ∧ (Lit.int .i64 x.f1).wf = true ∧ (Lit.int .i64 x.f2).wf = true ∧ (Lit.int .u64 x.f3).wf = true ∧ (Lit.int .u64 x.f4).wf = true) :=
  Rk.opens_iso (Rk.opens_pair (Rk.opens_int .i64) (Rk.opens_pair (Rk.opens_int .i64) (Rk.opens_pair (Rk.opens_int .i64) (Rk.opens_pair (Rk.opens_int .u64) (Rk.opens_int .u64))))) _ (fun p => (⟨p.1, p.2.1, p.2.2.1, p.2.2.2.1, p.2.2.2.2⟩ : S25)) (fun _ => rfl) (fun _ h => h)
end Go.Proofs.Ytneppenmhbjfkaa.Ar
