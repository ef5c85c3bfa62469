/- Facts for the law ClassBlocks. Condition where one is named: a size from 1 to 2^40. -/
import Derived.Test.YtjbcffcjepkbgaaAw
import Derived.Test.YtjbcffcjepkbgaaQt
namespace Go.Proofs.Ytjbcffcjepkbgaa
open Go.RowKit

theorem table_lt (w : World) : Calls Try.prog 8 #[] w fun e w' => e = .returned (.agg #[.int .i64 8, .int .i64 8, .int .i64 8, .int .i64 16, .int .i64 16, .int .i64 4, .int .i64 24, .int .i64 8, .int .i64 2, .int .i64 32, .int .i64 32, .int .i64 2]) ∧ Below w.heap.size w w' := table_any w

theorem pg_facts (s : Int) (h : 1 ≤ s) (h' : s ≤ 1099511627776) : 1 ≤ pgI s ∧ pgI s ≤ 17179869185 ∧ s ≤ pgI s * 64 ∧ (pgI s - 1) * 64 < s := by
  unfold pgI
  omega
end Go.Proofs.Ytjbcffcjepkbgaa
