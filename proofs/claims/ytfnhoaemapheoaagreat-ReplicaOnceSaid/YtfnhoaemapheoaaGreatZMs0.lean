/-
  Things of package message: one type is not another. No condition.
-/
import Derived.Test.YtfnhoaemapheoaaGreatN
import Derived.Test.YtfnhoaemapheoaaGreatZEng
import Derived.Test.YtfnhoaemapheoaaGreatZEngSl
set_option maxRecDepth 100000
namespace Go.Proofs.YtfnhoaemapheoaaGreat
open Go.Eng
theorem aqh (v : Value) (w : World) (K : KV) : taT P (.iface T.s v) T.an T.j true w K = K (.tuple #[.agg #[.int .u64 0, .int .u64 0, .int .u64 0, .int .i64 0], .bool false]) w := .trans (by kernel_rfl) rfl
theorem axa (v : Value) (rx ry : Operand) (w : World) (K : KV) : en P .eql T.an rx ry (.iface T.s v) .nilIface w K = K (.bool false) w := .trans (by kernel_rfl) rfl
theorem akp (v : Value) (w : World) (K : KV) : taT P (.iface T.t v) T.an T.j true w K = K (.tuple #[.agg #[.int .u64 0, .int .u64 0, .int .u64 0, .int .i64 0], .bool false]) w := .trans (by kernel_rfl) rfl
theorem arc (v : Value) (rx ry : Operand) (w : World) (K : KV) : en P .eql T.an rx ry (.iface T.t v) .nilIface w K = K (.bool false) w := .trans (by kernel_rfl) rfl
theorem agc (v : Value) (w : World) (K : KV) : taT P (.iface T.j v) T.an T.s true w K = K (.tuple #[.agg #[.int .u64 0, .bool false, .slice none 0 0], .bool false]) w := .trans (by kernel_rfl) rfl
theorem ade (v : Value) (w : World) (K : KV) : taT P (.iface T.j v) T.an T.t true w K = K (.tuple #[.agg #[.slice none 0 0], .bool false]) w := .trans (by kernel_rfl) rfl
theorem bcm (v : Value) (rx ry : Operand) (w : World) (K : KV) : en P .eql T.an rx ry (.iface T.j v) .nilIface w K = K (.bool false) w := .trans (by kernel_rfl) rfl
theorem adc (v : Value) (w : World) (K : KV) : taT P (.iface T.n v) T.an T.s true w K = K (.tuple #[.agg #[.int .u64 0, .bool false, .slice none 0 0], .bool false]) w := .trans (by kernel_rfl) rfl
theorem aaq (v : Value) (w : World) (K : KV) : taT P (.iface T.n v) T.an T.t true w K = K (.tuple #[.agg #[.slice none 0 0], .bool false]) w := .trans (by kernel_rfl) rfl
theorem aae (v : Value) (w : World) (K : KV) : taT P (.iface T.n v) T.an T.j true w K = K (.tuple #[.agg #[.int .u64 0, .int .u64 0, .int .u64 0, .int .i64 0], .bool false]) w := .trans (by kernel_rfl) rfl
theorem avs (v : Value) (rx ry : Operand) (w : World) (K : KV) : en P .eql T.an rx ry (.iface T.n v) .nilIface w K = K (.bool false) w := .trans (by kernel_rfl) rfl
theorem aeo (v : Value) (w : World) (K : KV) : taT P (.iface T.y v) T.an T.s true w K = K (.tuple #[.agg #[.int .u64 0, .bool false, .slice none 0 0], .bool false]) w := .trans (by kernel_rfl) rfl
theorem abj (v : Value) (w : World) (K : KV) : taT P (.iface T.y v) T.an T.t true w K = K (.tuple #[.agg #[.slice none 0 0], .bool false]) w := .trans (by kernel_rfl) rfl
theorem abu (v : Value) (w : World) (K : KV) : taT P (.iface T.y v) T.an T.j true w K = K (.tuple #[.agg #[.int .u64 0, .int .u64 0, .int .u64 0, .int .i64 0], .bool false]) w := .trans (by kernel_rfl) rfl
theorem aep (v : Value) (w : World) (K : KV) : taT P (.iface T.y v) T.an T.n true w K = K (.tuple #[.agg #[.int .u64 0, .int .u64 0, .int .u64 0, .bool false, .int .u64 0, .int .u64 0, .int .i64 0, .bool false], .bool false]) w := .trans (by kernel_rfl) rfl
theorem axn (v : Value) (rx ry : Operand) (w : World) (K : KV) : en P .eql T.an rx ry (.iface T.y v) .nilIface w K = K (.bool false) w := .trans (by kernel_rfl) rfl
theorem abf (v : Value) (w : World) (K : KV) : taT P (.iface T.r v) T.an T.s true w K = K (.tuple #[.agg #[.int .u64 0, .bool false, .slice none 0 0], .bool false]) w := .trans (by kernel_rfl) rfl
theorem zh (v : Value) (w : World) (K : KV) : taT P (.iface T.r v) T.an T.t true w K = K (.tuple #[.agg #[.slice none 0 0], .bool false]) w := .trans (by kernel_rfl) rfl
theorem yy (v : Value) (w : World) (K : KV) : taT P (.iface T.r v) T.an T.j true w K = K (.tuple #[.agg #[.int .u64 0, .int .u64 0, .int .u64 0, .int .i64 0], .bool false]) w := .trans (by kernel_rfl) rfl
theorem abm (v : Value) (w : World) (K : KV) : taT P (.iface T.r v) T.an T.n true w K = K (.tuple #[.agg #[.int .u64 0, .int .u64 0, .int .u64 0, .bool false, .int .u64 0, .int .u64 0, .int .i64 0, .bool false], .bool false]) w := .trans (by kernel_rfl) rfl
theorem acx (v : Value) (w : World) (K : KV) : taT P (.iface T.r v) T.an T.y true w K = K (.tuple #[.agg #[.int .u64 0, .int .i64 0], .bool false]) w := .trans (by kernel_rfl) rfl
theorem att (v : Value) (rx ry : Operand) (w : World) (K : KV) : en P .eql T.an rx ry (.iface T.r v) .nilIface w K = K (.bool false) w := .trans (by kernel_rfl) rfl
theorem acw (v : Value) (w : World) (K : KV) : taT P (.iface T.v v) T.an T.s true w K = K (.tuple #[.agg #[.int .u64 0, .bool false, .slice none 0 0], .bool false]) w := .trans (by kernel_rfl) rfl
theorem zy (v : Value) (w : World) (K : KV) : taT P (.iface T.v v) T.an T.t true w K = K (.tuple #[.agg #[.slice none 0 0], .bool false]) w := .trans (by kernel_rfl) rfl
theorem aav (v : Value) (w : World) (K : KV) : taT P (.iface T.v v) T.an T.j true w K = K (.tuple #[.agg #[.int .u64 0, .int .u64 0, .int .u64 0, .int .i64 0], .bool false]) w := .trans (by kernel_rfl) rfl
theorem adj (v : Value) (w : World) (K : KV) : taT P (.iface T.v v) T.an T.n true w K = K (.tuple #[.agg #[.int .u64 0, .int .u64 0, .int .u64 0, .bool false, .int .u64 0, .int .u64 0, .int .i64 0, .bool false], .bool false]) w := .trans (by kernel_rfl) rfl
theorem aen (v : Value) (w : World) (K : KV) : taT P (.iface T.v v) T.an T.y true w K = K (.tuple #[.agg #[.int .u64 0, .int .i64 0], .bool false]) w := .trans (by kernel_rfl) rfl
theorem abl (v : Value) (w : World) (K : KV) : taT P (.iface T.v v) T.an T.r true w K = K (.tuple #[.agg #[.int .u64 0, .int .u64 0, .int .u64 0, .slice none 0 0], .bool false]) w := .trans (by kernel_rfl) rfl
theorem avi (v : Value) (rx ry : Operand) (w : World) (K : KV) : en P .eql T.an rx ry (.iface T.v v) .nilIface w K = K (.bool false) w := .trans (by kernel_rfl) rfl
def aea (x : Int) : List Value := [.int .u8 x]
theorem il (x : Int) : (aea x).length = 1 := rfl
theorem wg (x : Int) : ∀ u ∈ aea x, je u = true := fun u hu => by simp [aea] at hu; subst hu; rfl
structure Mem where
 id : Int
 inc : Int
 st : Int
 deriving DecidableEq
def akn (m : Mem) : List Value := [.int .u64 m.id, .int .u64 m.inc, .int .i64 m.st]
theorem aps (m : Mem) : (akn m).length = 3 := rfl
theorem ayg (m : Mem) : ∀ u ∈ akn m, je u = true := fun u hu => by simp [akn] at hu; rcases hu with rfl | rfl | rfl <;> rfl
end Go.Proofs.YtfnhoaemapheoaaGreat
