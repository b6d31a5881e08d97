/-
  Things of package message: one type is not another. No condition.
-/
import Derived.Test.YtfnhoaemapheoaaGreatN
import Derived.Test.YtfnhoaemapheoaaGreatZEng
import Derived.Test.YtfnhoaemapheoaaGreatZEngSl
set_option maxRecDepth 100000
namespace Go.Proofs.YtfnhoaemapheoaaGreat
open Go.Eng
theorem ajk (v : Value) (w : World) (K : KV) : taT P (.iface T.q v) T.an T.h true w K = K (.tuple #[.agg #[.int .u64 0, .int .u64 0, .int .u64 0, .slice none 0 0], .bool false]) w := .trans (by kernel_rfl) rfl
theorem bav (v : Value) (rx ry : Operand) (w : World) (K : KV) : ga P .eql T.an rx ry (.iface T.q v) .nilIface w K = K (.bool false) w := .trans (by kernel_rfl) rfl
theorem ahz (v : Value) (w : World) (K : KV) : taT P (.iface T.s v) T.an T.h true w K = K (.tuple #[.agg #[.int .u64 0, .int .u64 0, .int .u64 0, .slice none 0 0], .bool false]) w := .trans (by kernel_rfl) rfl
theorem atq (v : Value) (rx ry : Operand) (w : World) (K : KV) : ga P .eql T.an rx ry (.iface T.s v) .nilIface w K = K (.bool false) w := .trans (by kernel_rfl) rfl
theorem afs (v : Value) (w : World) (K : KV) : taT P (.iface T.w v) T.an T.q true w K = K (.tuple #[.agg #[.int .u64 0, .bool false, .slice none 0 0], .bool false]) w := .trans (by kernel_rfl) rfl
theorem ado (v : Value) (w : World) (K : KV) : taT P (.iface T.w v) T.an T.s true w K = K (.tuple #[.agg #[.slice none 0 0], .bool false]) w := .trans (by kernel_rfl) rfl
theorem aog (v : Value) (w : World) (K : KV) : taT P (.iface T.w v) T.an T.h true w K = K (.tuple #[.agg #[.int .u64 0, .int .u64 0, .int .u64 0, .slice none 0 0], .bool false]) w := .trans (by kernel_rfl) rfl
theorem bix (v : Value) (rx ry : Operand) (w : World) (K : KV) : ga P .eql T.an rx ry (.iface T.w v) .nilIface w K = K (.bool false) w := .trans (by kernel_rfl) rfl
theorem adh (v : Value) (w : World) (K : KV) : taT P (.iface T.l v) T.an T.q true w K = K (.tuple #[.agg #[.int .u64 0, .bool false, .slice none 0 0], .bool false]) w := .trans (by kernel_rfl) rfl
theorem abz (v : Value) (w : World) (K : KV) : taT P (.iface T.l v) T.an T.s true w K = K (.tuple #[.agg #[.slice none 0 0], .bool false]) w := .trans (by kernel_rfl) rfl
theorem afu (v : Value) (w : World) (K : KV) : taT P (.iface T.l v) T.an T.w true w K = K (.tuple #[.agg #[.int .u64 0, .int .u64 0, .int .u64 0, .int .i64 0], .bool false]) w := .trans (by kernel_rfl) rfl
theorem ako (v : Value) (w : World) (K : KV) : taT P (.iface T.l v) T.an T.h true w K = K (.tuple #[.agg #[.int .u64 0, .int .u64 0, .int .u64 0, .slice none 0 0], .bool false]) w := .trans (by kernel_rfl) rfl
theorem baz (v : Value) (rx ry : Operand) (w : World) (K : KV) : ga P .eql T.an rx ry (.iface T.l v) .nilIface w K = K (.bool false) w := .trans (by kernel_rfl) rfl
theorem afg (v : Value) (w : World) (K : KV) : taT P (.iface T.y v) T.an T.q true w K = K (.tuple #[.agg #[.int .u64 0, .bool false, .slice none 0 0], .bool false]) w := .trans (by kernel_rfl) rfl
theorem acp (v : Value) (w : World) (K : KV) : taT P (.iface T.y v) T.an T.s true w K = K (.tuple #[.agg #[.slice none 0 0], .bool false]) w := .trans (by kernel_rfl) rfl
theorem aif (v : Value) (w : World) (K : KV) : taT P (.iface T.y v) T.an T.w true w K = K (.tuple #[.agg #[.int .u64 0, .int .u64 0, .int .u64 0, .int .i64 0], .bool false]) w := .trans (by kernel_rfl) rfl
theorem afc (v : Value) (w : World) (K : KV) : taT P (.iface T.y v) T.an T.l true w K = K (.tuple #[.agg #[.int .u64 0, .int .u64 0, .int .u64 0, .bool false, .int .u64 0, .int .u64 0, .int .i64 0, .bool false], .bool false]) w := .trans (by kernel_rfl) rfl
theorem alx (v : Value) (w : World) (K : KV) : taT P (.iface T.y v) T.an T.h true w K = K (.tuple #[.agg #[.int .u64 0, .int .u64 0, .int .u64 0, .slice none 0 0], .bool false]) w := .trans (by kernel_rfl) rfl
theorem bfp (v : Value) (rx ry : Operand) (w : World) (K : KV) : ga P .eql T.an rx ry (.iface T.y v) .nilIface w K = K (.bool false) w := .trans (by kernel_rfl) rfl
theorem acm (v : Value) (w : World) (K : KV) : taT P (.iface T.h v) T.an T.q true w K = K (.tuple #[.agg #[.int .u64 0, .bool false, .slice none 0 0], .bool false]) w := .trans (by kernel_rfl) rfl
theorem aau (v : Value) (w : World) (K : KV) : taT P (.iface T.h v) T.an T.s true w K = K (.tuple #[.agg #[.slice none 0 0], .bool false]) w := .trans (by kernel_rfl) rfl
theorem afh (v : Value) (w : World) (K : KV) : taT P (.iface T.h v) T.an T.w true w K = K (.tuple #[.agg #[.int .u64 0, .int .u64 0, .int .u64 0, .int .i64 0], .bool false]) w := .trans (by kernel_rfl) rfl
theorem acq (v : Value) (w : World) (K : KV) : taT P (.iface T.h v) T.an T.l true w K = K (.tuple #[.agg #[.int .u64 0, .int .u64 0, .int .u64 0, .bool false, .int .u64 0, .int .u64 0, .int .i64 0, .bool false], .bool false]) w := .trans (by kernel_rfl) rfl
theorem adt (v : Value) (w : World) (K : KV) : taT P (.iface T.h v) T.an T.y true w K = K (.tuple #[.agg #[.int .u64 0, .int .i64 0], .bool false]) w := .trans (by kernel_rfl) rfl
theorem axu (v : Value) (rx ry : Operand) (w : World) (K : KV) : ga P .eql T.an rx ry (.iface T.h v) .nilIface w K = K (.bool false) w := .trans (by kernel_rfl) rfl
theorem zj (v : Value) (w : World) (K : KV) : taT P (.iface T.m v) T.an T.q true w K = K (.tuple #[.agg #[.int .u64 0, .bool false, .slice none 0 0], .bool false]) w := .trans (by kernel_rfl) rfl
theorem yc (v : Value) (w : World) (K : KV) : taT P (.iface T.m v) T.an T.s true w K = K (.tuple #[.agg #[.slice none 0 0], .bool false]) w := .trans (by kernel_rfl) rfl
theorem ace (v : Value) (w : World) (K : KV) : taT P (.iface T.m v) T.an T.w true w K = K (.tuple #[.agg #[.int .u64 0, .int .u64 0, .int .u64 0, .int .i64 0], .bool false]) w := .trans (by kernel_rfl) rfl
theorem zi (v : Value) (w : World) (K : KV) : taT P (.iface T.m v) T.an T.l true w K = K (.tuple #[.agg #[.int .u64 0, .int .u64 0, .int .u64 0, .bool false, .int .u64 0, .int .u64 0, .int .i64 0, .bool false], .bool false]) w := .trans (by kernel_rfl) rfl
theorem aas (v : Value) (w : World) (K : KV) : taT P (.iface T.m v) T.an T.y true w K = K (.tuple #[.agg #[.int .u64 0, .int .i64 0], .bool false]) w := .trans (by kernel_rfl) rfl
theorem vr (v : Value) (w : World) (K : KV) : taT P (.iface T.m v) T.an T.h true w K = K (.tuple #[.agg #[.int .u64 0, .int .u64 0, .int .u64 0, .slice none 0 0], .bool false]) w := .trans (by kernel_rfl) rfl
theorem bah (v : Value) (rx ry : Operand) (w : World) (K : KV) : ga P .eql T.an rx ry (.iface T.m v) .nilIface w K = K (.bool false) w := .trans (by kernel_rfl) rfl
def aep (x : Int) : List Value := [.int .u8 x]
theorem jj (x : Int) : (aep x).length = 1 := rfl
theorem vu (x : Int) : ∀ u ∈ aep x, jz u = true := fun u hu => by simp [aep] at hu; subst hu; rfl
structure Mem where
 id : Int
 inc : Int
 st : Int
 deriving DecidableEq
def ach (m : Mem) : List Value := [.int .u64 m.id, .int .u64 m.inc, .int .i64 m.st]
theorem apv (m : Mem) : (ach m).length = 3 := rfl
theorem bds (m : Mem) : ∀ u ∈ ach m, jz u = true := fun u hu => by simp [ach] at hu; rcases hu with rfl | rfl | rfl <;> rfl
end Go.Proofs.YtfnhoaemapheoaaGreat
