/-
  Things of package message: one type is not another. No condition.
-/
import Derived.Test.YtfnhoaemapheoaaGreatN
import Derived.Test.YtfnhoaemapheoaaGreatZEng
import Derived.Test.YtfnhoaemapheoaaGreatZEngSl
set_option maxRecDepth 100000
namespace Go.Proofs.YtfnhoaemapheoaaGreat
open Go.Eng
theorem aqa (v : Value) (w : World) (K : KV) : taT P (.iface T.y v) T.an T.p true w K = K (.tuple #[.agg #[.int .u64 0, .int .u64 0, .int .u64 0, .int .i64 0], .bool false]) w := .trans (by kernel_rfl) rfl
theorem aye (v : Value) (rx ry : Operand) (w : World) (K : KV) : fi P .eql T.an rx ry (.iface T.y v) .nilIface w K = K (.bool false) w := .trans (by kernel_rfl) rfl
theorem akt (v : Value) (w : World) (K : KV) : taT P (.iface T.aa v) T.an T.p true w K = K (.tuple #[.agg #[.int .u64 0, .int .u64 0, .int .u64 0, .int .i64 0], .bool false]) w := .trans (by kernel_rfl) rfl
theorem aro (v : Value) (rx ry : Operand) (w : World) (K : KV) : fi P .eql T.an rx ry (.iface T.aa v) .nilIface w K = K (.bool false) w := .trans (by kernel_rfl) rfl
theorem afl (v : Value) (w : World) (K : KV) : taT P (.iface T.p v) T.an T.y true w K = K (.tuple #[.agg #[.int .u64 0, .bool false, .slice none 0 0], .bool false]) w := .trans (by kernel_rfl) rfl
theorem adk (v : Value) (w : World) (K : KV) : taT P (.iface T.p v) T.an T.aa true w K = K (.tuple #[.agg #[.slice none 0 0], .bool false]) w := .trans (by kernel_rfl) rfl
theorem bdw (v : Value) (rx ry : Operand) (w : World) (K : KV) : fi P .eql T.an rx ry (.iface T.p v) .nilIface w K = K (.bool false) w := .trans (by kernel_rfl) rfl
theorem ada (v : Value) (w : World) (K : KV) : taT P (.iface T.s v) T.an T.y true w K = K (.tuple #[.agg #[.int .u64 0, .bool false, .slice none 0 0], .bool false]) w := .trans (by kernel_rfl) rfl
theorem abx (v : Value) (w : World) (K : KV) : taT P (.iface T.s v) T.an T.aa true w K = K (.tuple #[.agg #[.slice none 0 0], .bool false]) w := .trans (by kernel_rfl) rfl
theorem abj (v : Value) (w : World) (K : KV) : taT P (.iface T.s v) T.an T.p true w K = K (.tuple #[.agg #[.int .u64 0, .int .u64 0, .int .u64 0, .int .i64 0], .bool false]) w := .trans (by kernel_rfl) rfl
theorem axj (v : Value) (rx ry : Operand) (w : World) (K : KV) : fi P .eql T.an rx ry (.iface T.s v) .nilIface w K = K (.bool false) w := .trans (by kernel_rfl) rfl
theorem afb (v : Value) (w : World) (K : KV) : taT P (.iface T.ae v) T.an T.y true w K = K (.tuple #[.agg #[.int .u64 0, .bool false, .slice none 0 0], .bool false]) w := .trans (by kernel_rfl) rfl
theorem acn (v : Value) (w : World) (K : KV) : taT P (.iface T.ae v) T.an T.aa true w K = K (.tuple #[.agg #[.slice none 0 0], .bool false]) w := .trans (by kernel_rfl) rfl
theorem acw (v : Value) (w : World) (K : KV) : taT P (.iface T.ae v) T.an T.p true w K = K (.tuple #[.agg #[.int .u64 0, .int .u64 0, .int .u64 0, .int .i64 0], .bool false]) w := .trans (by kernel_rfl) rfl
theorem afd (v : Value) (w : World) (K : KV) : taT P (.iface T.ae v) T.an T.s true w K = K (.tuple #[.agg #[.int .u64 0, .int .u64 0, .int .u64 0, .bool false, .int .u64 0, .int .u64 0, .int .i64 0, .bool false], .bool false]) w := .trans (by kernel_rfl) rfl
theorem bae (v : Value) (rx ry : Operand) (w : World) (K : KV) : fi P .eql T.an rx ry (.iface T.ae v) .nilIface w K = K (.bool false) w := .trans (by kernel_rfl) rfl
theorem acf (v : Value) (w : World) (K : KV) : taT P (.iface T.x v) T.an T.y true w K = K (.tuple #[.agg #[.int .u64 0, .bool false, .slice none 0 0], .bool false]) w := .trans (by kernel_rfl) rfl
theorem aad (v : Value) (w : World) (K : KV) : taT P (.iface T.x v) T.an T.aa true w K = K (.tuple #[.agg #[.slice none 0 0], .bool false]) w := .trans (by kernel_rfl) rfl
theorem aab (v : Value) (w : World) (K : KV) : taT P (.iface T.x v) T.an T.p true w K = K (.tuple #[.agg #[.int .u64 0, .int .u64 0, .int .u64 0, .int .i64 0], .bool false]) w := .trans (by kernel_rfl) rfl
theorem acm (v : Value) (w : World) (K : KV) : taT P (.iface T.x v) T.an T.s true w K = K (.tuple #[.agg #[.int .u64 0, .int .u64 0, .int .u64 0, .bool false, .int .u64 0, .int .u64 0, .int .i64 0, .bool false], .bool false]) w := .trans (by kernel_rfl) rfl
theorem ady (v : Value) (w : World) (K : KV) : taT P (.iface T.x v) T.an T.ae true w K = K (.tuple #[.agg #[.int .u64 0, .int .i64 0], .bool false]) w := .trans (by kernel_rfl) rfl
theorem auu (v : Value) (rx ry : Operand) (w : World) (K : KV) : fi P .eql T.an rx ry (.iface T.x v) .nilIface w K = K (.bool false) w := .trans (by kernel_rfl) rfl
theorem aea (v : Value) (w : World) (K : KV) : taT P (.iface T.ab v) T.an T.y true w K = K (.tuple #[.agg #[.int .u64 0, .bool false, .slice none 0 0], .bool false]) w := .trans (by kernel_rfl) rfl
theorem aba (v : Value) (w : World) (K : KV) : taT P (.iface T.ab v) T.an T.aa true w K = K (.tuple #[.agg #[.slice none 0 0], .bool false]) w := .trans (by kernel_rfl) rfl
theorem abu (v : Value) (w : World) (K : KV) : taT P (.iface T.ab v) T.an T.p true w K = K (.tuple #[.agg #[.int .u64 0, .int .u64 0, .int .u64 0, .int .i64 0], .bool false]) w := .trans (by kernel_rfl) rfl
theorem aeb (v : Value) (w : World) (K : KV) : taT P (.iface T.ab v) T.an T.s true w K = K (.tuple #[.agg #[.int .u64 0, .int .u64 0, .int .u64 0, .bool false, .int .u64 0, .int .u64 0, .int .i64 0, .bool false], .bool false]) w := .trans (by kernel_rfl) rfl
theorem aey (v : Value) (w : World) (K : KV) : taT P (.iface T.ab v) T.an T.ae true w K = K (.tuple #[.agg #[.int .u64 0, .int .i64 0], .bool false]) w := .trans (by kernel_rfl) rfl
theorem acd (v : Value) (w : World) (K : KV) : taT P (.iface T.ab v) T.an T.x true w K = K (.tuple #[.agg #[.int .u64 0, .int .u64 0, .int .u64 0, .slice none 0 0], .bool false]) w := .trans (by kernel_rfl) rfl
theorem awb (v : Value) (rx ry : Operand) (w : World) (K : KV) : fi P .eql T.an rx ry (.iface T.ab v) .nilIface w K = K (.bool false) w := .trans (by kernel_rfl) rfl
def aex (x : Int) : List Value := [.int .u8 x]
theorem ja (x : Int) : (aex x).length = 1 := rfl
theorem xf (x : Int) : ∀ u ∈ aex x, jq u = true := fun u hu => by simp [aex] at hu; subst hu; rfl
structure Mem where
 id : Int
 inc : Int
 st : Int
 deriving DecidableEq
def abp (m : Mem) : List Value := [.int .u64 m.id, .int .u64 m.inc, .int .i64 m.st]
theorem aqx (m : Mem) : (abp m).length = 3 := rfl
theorem bbg (m : Mem) : ∀ u ∈ abp m, jq u = true := fun u hu => by simp [abp] at hu; rcases hu with rfl | rfl | rfl <;> rfl
end Go.Proofs.YtfnhoaemapheoaaGreat
