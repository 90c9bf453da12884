/- An expression and an event, loaded from their blocks. -/
import Derived.Test.YtjkhajcngapjcaaEQ
import Derived.Deep.MidRow
namespace Go.Proofs.Ytjkhajcngapjcaa.Q
open Go.RowKit Go.Proofs.YtjkhajcngapjcaaW.PrintWords Go.Proofs.YtjkhajcngapjcaaW.PrintLast Go.Proofs.YtjkhajcngapjcaaW.PrintMore
set_option linter.unusedVariables false
set_option linter.unusedSimpArgs false

theorem load_node {w : World} {b : Nat} {v0 v1 v2 v3 v4 v5 v6 : Value} (h : w.heap[b]? = some (.cells #[v0, v1, v2, v3, v4, v5, v6] 28 (0, 0))) : (Instr.loadAt 28 (.pointer (some ⟨b, 0, none⟩))).run Try.prog w = .ok (.agg #[v0, v1, v2, v3, v4, v5, v6]) w :=
  run_loadAt_mid w b 0 28 [v0, v1, v2, v3, v4, v5, v6] _ (fun j u hj => by rw [Nat.zero_add, blk_cell h]; simpa using hj) Try.underlying28 rfl (by kernel_rfl)
theorem load_ev {w : World} {b : Nat} {e : Nat → V3} (h : EvAt w b e) : (Instr.loadAt 32 (.pointer (some ⟨b, 0, none⟩))).run Try.prog w = .ok (.agg #[.int .i64 (e 0).k, .int .i64 (e 0).n, .string (e 0).t, .int .i64 (e 1).k, .int .i64 (e 1).n, .string (e 1).t, .int .i64 (e 2).k, .int .i64 (e 2).n, .string (e 2).t, .int .i64 (e 3).k, .int .i64 (e 3).n, .string (e 3).t]) w :=
  run_loadAt_mid w b 0 32 [.int .i64 (e 0).k, .int .i64 (e 0).n, .string (e 0).t, .int .i64 (e 1).k, .int .i64 (e 1).n, .string (e 1).t, .int .i64 (e 2).k, .int .i64 (e 2).n, .string (e 2).t, .int .i64 (e 3).k, .int .i64 (e 3).n, .string (e 3).t] _ (fun j u hj => by rw [Nat.zero_add, blk_cell h]; simpa using hj) Try.underlying32 rfl (by kernel_rfl)
end Go.Proofs.Ytjkhajcngapjcaa.Q
