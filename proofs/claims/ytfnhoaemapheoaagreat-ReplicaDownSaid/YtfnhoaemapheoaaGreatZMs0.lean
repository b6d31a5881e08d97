/-
  Things of package message: one type is not another. No condition.
-/
import Derived.Test.YtfnhoaemapheoaaGreatN
import Derived.Test.YtfnhoaemapheoaaGreatZEng
import Derived.Test.YtfnhoaemapheoaaGreatZEngSl
set_option maxRecDepth 100000
namespace Go.Proofs.YtfnhoaemapheoaaGreat
open Go.Eng
theorem arc (v : Value) (w : World) (K : KV) : taT P (.iface T.y v) T.an T.p true w K = K (.tuple #[.agg #[.int .u64 0, .int .u64 0, .int .u64 0, .int .i64 0], .bool false]) w := .trans (by kernel_rfl) rfl
theorem axd (v : Value) (rx ry : Operand) (w : World) (K : KV) : fi P .eql T.an rx ry (.iface T.y v) .nilIface w K = K (.bool false) w := .trans (by kernel_rfl) rfl
theorem alp (v : Value) (w : World) (K : KV) : taT P (.iface T.aa v) T.an T.p true w K = K (.tuple #[.agg #[.int .u64 0, .int .u64 0, .int .u64 0, .int .i64 0], .bool false]) w := .trans (by kernel_rfl) rfl
theorem arl (v : Value) (rx ry : Operand) (w : World) (K : KV) : fi P .eql T.an rx ry (.iface T.aa v) .nilIface w K = K (.bool false) w := .trans (by kernel_rfl) rfl
theorem afh (v : Value) (w : World) (K : KV) : taT P (.iface T.p v) T.an T.y true w K = K (.tuple #[.agg #[.int .u64 0, .bool false, .slice none 0 0], .bool false]) w := .trans (by kernel_rfl) rfl
theorem ads (v : Value) (w : World) (K : KV) : taT P (.iface T.p v) T.an T.aa true w K = K (.tuple #[.agg #[.slice none 0 0], .bool false]) w := .trans (by kernel_rfl) rfl
theorem bci (v : Value) (rx ry : Operand) (w : World) (K : KV) : fi P .eql T.an rx ry (.iface T.p v) .nilIface w K = K (.bool false) w := .trans (by kernel_rfl) rfl
theorem adq (v : Value) (w : World) (K : KV) : taT P (.iface T.s v) T.an T.y true w K = K (.tuple #[.agg #[.int .u64 0, .bool false, .slice none 0 0], .bool false]) w := .trans (by kernel_rfl) rfl
theorem abd (v : Value) (w : World) (K : KV) : taT P (.iface T.s v) T.an T.aa true w K = K (.tuple #[.agg #[.slice none 0 0], .bool false]) w := .trans (by kernel_rfl) rfl
theorem abu (v : Value) (w : World) (K : KV) : taT P (.iface T.s v) T.an T.p true w K = K (.tuple #[.agg #[.int .u64 0, .int .u64 0, .int .u64 0, .int .i64 0], .bool false]) w := .trans (by kernel_rfl) rfl
theorem ayh (v : Value) (rx ry : Operand) (w : World) (K : KV) : fi P .eql T.an rx ry (.iface T.s v) .nilIface w K = K (.bool false) w := .trans (by kernel_rfl) rfl
theorem aff (v : Value) (w : World) (K : KV) : taT P (.iface T.ae v) T.an T.y true w K = K (.tuple #[.agg #[.int .u64 0, .bool false, .slice none 0 0], .bool false]) w := .trans (by kernel_rfl) rfl
theorem acm (v : Value) (w : World) (K : KV) : taT P (.iface T.ae v) T.an T.aa true w K = K (.tuple #[.agg #[.slice none 0 0], .bool false]) w := .trans (by kernel_rfl) rfl
theorem acy (v : Value) (w : World) (K : KV) : taT P (.iface T.ae v) T.an T.p true w K = K (.tuple #[.agg #[.int .u64 0, .int .u64 0, .int .u64 0, .int .i64 0], .bool false]) w := .trans (by kernel_rfl) rfl
theorem afe (v : Value) (w : World) (K : KV) : taT P (.iface T.ae v) T.an T.s true w K = K (.tuple #[.agg #[.int .u64 0, .int .u64 0, .int .u64 0, .bool false, .int .u64 0, .int .u64 0, .int .i64 0, .bool false], .bool false]) w := .trans (by kernel_rfl) rfl
theorem ayx (v : Value) (rx ry : Operand) (w : World) (K : KV) : fi P .eql T.an rx ry (.iface T.ae v) .nilIface w K = K (.bool false) w := .trans (by kernel_rfl) rfl
theorem acb (v : Value) (w : World) (K : KV) : taT P (.iface T.x v) T.an T.y true w K = K (.tuple #[.agg #[.int .u64 0, .bool false, .slice none 0 0], .bool false]) w := .trans (by kernel_rfl) rfl
theorem aad (v : Value) (w : World) (K : KV) : taT P (.iface T.x v) T.an T.aa true w K = K (.tuple #[.agg #[.slice none 0 0], .bool false]) w := .trans (by kernel_rfl) rfl
theorem aac (v : Value) (w : World) (K : KV) : taT P (.iface T.x v) T.an T.p true w K = K (.tuple #[.agg #[.int .u64 0, .int .u64 0, .int .u64 0, .int .i64 0], .bool false]) w := .trans (by kernel_rfl) rfl
theorem acj (v : Value) (w : World) (K : KV) : taT P (.iface T.x v) T.an T.s true w K = K (.tuple #[.agg #[.int .u64 0, .int .u64 0, .int .u64 0, .bool false, .int .u64 0, .int .u64 0, .int .i64 0, .bool false], .bool false]) w := .trans (by kernel_rfl) rfl
theorem adk (v : Value) (w : World) (K : KV) : taT P (.iface T.x v) T.an T.ae true w K = K (.tuple #[.agg #[.int .u64 0, .int .i64 0], .bool false]) w := .trans (by kernel_rfl) rfl
theorem atr (v : Value) (rx ry : Operand) (w : World) (K : KV) : fi P .eql T.an rx ry (.iface T.x v) .nilIface w K = K (.bool false) w := .trans (by kernel_rfl) rfl
theorem aea (v : Value) (w : World) (K : KV) : taT P (.iface T.ab v) T.an T.y true w K = K (.tuple #[.agg #[.int .u64 0, .bool false, .slice none 0 0], .bool false]) w := .trans (by kernel_rfl) rfl
theorem abl (v : Value) (w : World) (K : KV) : taT P (.iface T.ab v) T.an T.aa true w K = K (.tuple #[.agg #[.slice none 0 0], .bool false]) w := .trans (by kernel_rfl) rfl
theorem aba (v : Value) (w : World) (K : KV) : taT P (.iface T.ab v) T.an T.p true w K = K (.tuple #[.agg #[.int .u64 0, .int .u64 0, .int .u64 0, .int .i64 0], .bool false]) w := .trans (by kernel_rfl) rfl
theorem ado (v : Value) (w : World) (K : KV) : taT P (.iface T.ab v) T.an T.s true w K = K (.tuple #[.agg #[.int .u64 0, .int .u64 0, .int .u64 0, .bool false, .int .u64 0, .int .u64 0, .int .i64 0, .bool false], .bool false]) w := .trans (by kernel_rfl) rfl
theorem aez (v : Value) (w : World) (K : KV) : taT P (.iface T.ab v) T.an T.ae true w K = K (.tuple #[.agg #[.int .u64 0, .int .i64 0], .bool false]) w := .trans (by kernel_rfl) rfl
theorem acn (v : Value) (w : World) (K : KV) : taT P (.iface T.ab v) T.an T.x true w K = K (.tuple #[.agg #[.int .u64 0, .int .u64 0, .int .u64 0, .slice none 0 0], .bool false]) w := .trans (by kernel_rfl) rfl
theorem ayl (v : Value) (rx ry : Operand) (w : World) (K : KV) : fi P .eql T.an rx ry (.iface T.ab v) .nilIface w K = K (.bool false) w := .trans (by kernel_rfl) rfl
def aer (x : Int) : List Value := [.int .u8 x]
theorem jb (x : Int) : (aer x).length = 1 := rfl
theorem xj (x : Int) : ∀ u ∈ aer x, jq u = true := fun u hu => by simp [aer] at hu; subst hu; rfl
structure Mem where
 id : Int
 inc : Int
 st : Int
 deriving DecidableEq
def abp (m : Mem) : List Value := [.int .u64 m.id, .int .u64 m.inc, .int .i64 m.st]
theorem aot (m : Mem) : (abp m).length = 3 := rfl
theorem bat (m : Mem) : ∀ u ∈ abp m, jq u = true := fun u hu => by simp [abp] at hu; rcases hu with rfl | rfl | rfl <;> rfl
end Go.Proofs.YtfnhoaemapheoaaGreat
