/-
  Things of package message: one type is not another. No condition.
-/
import Derived.Test.YtfnhoaemapheoaaGreatN
import Derived.Test.YtfnhoaemapheoaaGreatZEng
import Derived.Test.YtfnhoaemapheoaaGreatZEngSl
set_option maxRecDepth 100000
namespace Go.Proofs.YtfnhoaemapheoaaGreat
open Go.Eng
theorem ajr (v : Value) (w : World) (K : KV) : taT P (.iface T.r v) T.an T.h true w K = K (.tuple #[.agg #[.int .u64 0, .int .u64 0, .int .u64 0, .slice none 0 0], .bool false]) w := .trans (by kernel_rfl) rfl
theorem azy (v : Value) (rx ry : Operand) (w : World) (K : KV) : gh P .eql T.an rx ry (.iface T.r v) .nilIface w K = K (.bool false) w := .trans (by kernel_rfl) rfl
theorem aid (v : Value) (w : World) (K : KV) : taT P (.iface T.t v) T.an T.h true w K = K (.tuple #[.agg #[.int .u64 0, .int .u64 0, .int .u64 0, .slice none 0 0], .bool false]) w := .trans (by kernel_rfl) rfl
theorem aud (v : Value) (rx ry : Operand) (w : World) (K : KV) : gh P .eql T.an rx ry (.iface T.t v) .nilIface w K = K (.bool false) w := .trans (by kernel_rfl) rfl
theorem ahg (v : Value) (w : World) (K : KV) : taT P (.iface T.x v) T.an T.r true w K = K (.tuple #[.agg #[.int .u64 0, .bool false, .slice none 0 0], .bool false]) w := .trans (by kernel_rfl) rfl
theorem ady (v : Value) (w : World) (K : KV) : taT P (.iface T.x v) T.an T.t true w K = K (.tuple #[.agg #[.slice none 0 0], .bool false]) w := .trans (by kernel_rfl) rfl
theorem aog (v : Value) (w : World) (K : KV) : taT P (.iface T.x v) T.an T.h true w K = K (.tuple #[.agg #[.int .u64 0, .int .u64 0, .int .u64 0, .slice none 0 0], .bool false]) w := .trans (by kernel_rfl) rfl
theorem bip (v : Value) (rx ry : Operand) (w : World) (K : KV) : gh P .eql T.an rx ry (.iface T.x v) .nilIface w K = K (.bool false) w := .trans (by kernel_rfl) rfl
theorem aec (v : Value) (w : World) (K : KV) : taT P (.iface T.m v) T.an T.r true w K = K (.tuple #[.agg #[.int .u64 0, .bool false, .slice none 0 0], .bool false]) w := .trans (by kernel_rfl) rfl
theorem aca (v : Value) (w : World) (K : KV) : taT P (.iface T.m v) T.an T.t true w K = K (.tuple #[.agg #[.slice none 0 0], .bool false]) w := .trans (by kernel_rfl) rfl
theorem ahf (v : Value) (w : World) (K : KV) : taT P (.iface T.m v) T.an T.x true w K = K (.tuple #[.agg #[.int .u64 0, .int .u64 0, .int .u64 0, .int .i64 0], .bool false]) w := .trans (by kernel_rfl) rfl
theorem ake (v : Value) (w : World) (K : KV) : taT P (.iface T.m v) T.an T.h true w K = K (.tuple #[.agg #[.int .u64 0, .int .u64 0, .int .u64 0, .slice none 0 0], .bool false]) w := .trans (by kernel_rfl) rfl
theorem bba (v : Value) (rx ry : Operand) (w : World) (K : KV) : gh P .eql T.an rx ry (.iface T.m v) .nilIface w K = K (.bool false) w := .trans (by kernel_rfl) rfl
theorem afh (v : Value) (w : World) (K : KV) : taT P (.iface T.y v) T.an T.r true w K = K (.tuple #[.agg #[.int .u64 0, .bool false, .slice none 0 0], .bool false]) w := .trans (by kernel_rfl) rfl
theorem acq (v : Value) (w : World) (K : KV) : taT P (.iface T.y v) T.an T.t true w K = K (.tuple #[.agg #[.slice none 0 0], .bool false]) w := .trans (by kernel_rfl) rfl
theorem aii (v : Value) (w : World) (K : KV) : taT P (.iface T.y v) T.an T.x true w K = K (.tuple #[.agg #[.int .u64 0, .int .u64 0, .int .u64 0, .int .i64 0], .bool false]) w := .trans (by kernel_rfl) rfl
theorem afj (v : Value) (w : World) (K : KV) : taT P (.iface T.y v) T.an T.m true w K = K (.tuple #[.agg #[.int .u64 0, .int .u64 0, .int .u64 0, .bool false, .int .u64 0, .int .u64 0, .int .i64 0, .bool false], .bool false]) w := .trans (by kernel_rfl) rfl
theorem amm (v : Value) (w : World) (K : KV) : taT P (.iface T.y v) T.an T.h true w K = K (.tuple #[.agg #[.int .u64 0, .int .u64 0, .int .u64 0, .slice none 0 0], .bool false]) w := .trans (by kernel_rfl) rfl
theorem bed (v : Value) (rx ry : Operand) (w : World) (K : KV) : gh P .eql T.an rx ry (.iface T.y v) .nilIface w K = K (.bool false) w := .trans (by kernel_rfl) rfl
theorem acn (v : Value) (w : World) (K : KV) : taT P (.iface T.h v) T.an T.r true w K = K (.tuple #[.agg #[.int .u64 0, .bool false, .slice none 0 0], .bool false]) w := .trans (by kernel_rfl) rfl
theorem aax (v : Value) (w : World) (K : KV) : taT P (.iface T.h v) T.an T.t true w K = K (.tuple #[.agg #[.slice none 0 0], .bool false]) w := .trans (by kernel_rfl) rfl
theorem afl (v : Value) (w : World) (K : KV) : taT P (.iface T.h v) T.an T.x true w K = K (.tuple #[.agg #[.int .u64 0, .int .u64 0, .int .u64 0, .int .i64 0], .bool false]) w := .trans (by kernel_rfl) rfl
theorem acp (v : Value) (w : World) (K : KV) : taT P (.iface T.h v) T.an T.m true w K = K (.tuple #[.agg #[.int .u64 0, .int .u64 0, .int .u64 0, .bool false, .int .u64 0, .int .u64 0, .int .i64 0, .bool false], .bool false]) w := .trans (by kernel_rfl) rfl
theorem adk (v : Value) (w : World) (K : KV) : taT P (.iface T.h v) T.an T.y true w K = K (.tuple #[.agg #[.int .u64 0, .int .i64 0], .bool false]) w := .trans (by kernel_rfl) rfl
theorem axw (v : Value) (rx ry : Operand) (w : World) (K : KV) : gh P .eql T.an rx ry (.iface T.h v) .nilIface w K = K (.bool false) w := .trans (by kernel_rfl) rfl
theorem zt (v : Value) (w : World) (K : KV) : taT P (.iface T.n v) T.an T.r true w K = K (.tuple #[.agg #[.int .u64 0, .bool false, .slice none 0 0], .bool false]) w := .trans (by kernel_rfl) rfl
theorem yh (v : Value) (w : World) (K : KV) : taT P (.iface T.n v) T.an T.t true w K = K (.tuple #[.agg #[.slice none 0 0], .bool false]) w := .trans (by kernel_rfl) rfl
theorem acg (v : Value) (w : World) (K : KV) : taT P (.iface T.n v) T.an T.x true w K = K (.tuple #[.agg #[.int .u64 0, .int .u64 0, .int .u64 0, .int .i64 0], .bool false]) w := .trans (by kernel_rfl) rfl
theorem zq (v : Value) (w : World) (K : KV) : taT P (.iface T.n v) T.an T.m true w K = K (.tuple #[.agg #[.int .u64 0, .int .u64 0, .int .u64 0, .bool false, .int .u64 0, .int .u64 0, .int .i64 0, .bool false], .bool false]) w := .trans (by kernel_rfl) rfl
theorem aat (v : Value) (w : World) (K : KV) : taT P (.iface T.n v) T.an T.y true w K = K (.tuple #[.agg #[.int .u64 0, .int .i64 0], .bool false]) w := .trans (by kernel_rfl) rfl
theorem vn (v : Value) (w : World) (K : KV) : taT P (.iface T.n v) T.an T.h true w K = K (.tuple #[.agg #[.int .u64 0, .int .u64 0, .int .u64 0, .slice none 0 0], .bool false]) w := .trans (by kernel_rfl) rfl
theorem azt (v : Value) (rx ry : Operand) (w : World) (K : KV) : gh P .eql T.an rx ry (.iface T.n v) .nilIface w K = K (.bool false) w := .trans (by kernel_rfl) rfl
def aeu (x : Int) : List Value := [.int .u8 x]
theorem jp (x : Int) : (aeu x).length = 1 := rfl
theorem wi (x : Int) : ∀ u ∈ aeu x, ke u = true := fun u hu => by simp [aeu] at hu; subst hu; rfl
structure Mem where
 id : Int
 inc : Int
 st : Int
 deriving DecidableEq
def acl (m : Mem) : List Value := [.int .u64 m.id, .int .u64 m.inc, .int .i64 m.st]
theorem arb (m : Mem) : (acl m).length = 3 := rfl
theorem bds (m : Mem) : ∀ u ∈ acl m, ke u = true := fun u hu => by simp [acl] at hu; rcases hu with rfl | rfl | rfl <;> rfl
end Go.Proofs.YtfnhoaemapheoaaGreat
