/-
  Things of package message: one type is not another. No condition.
-/
import Derived.Test.YtfnhoaemapheoaaGreatN
import Derived.Test.YtfnhoaemapheoaaGreatZEng
import Derived.Test.YtfnhoaemapheoaaGreatZEngSl
set_option maxRecDepth 100000
namespace Go.Proofs.YtfnhoaemapheoaaGreat
open Go.Eng
theorem ala (v : Value) (w : World) (K : KV) : taT P (.iface T.r v) T.an T.h true w K = K (.tuple #[.agg #[.int .u64 0, .int .u64 0, .int .u64 0, .slice none 0 0], .bool false]) w := .trans (by kernel_rfl) rfl
theorem bay (v : Value) (rx ry : Operand) (w : World) (K : KV) : gh P .eql T.an rx ry (.iface T.r v) .nilIface w K = K (.bool false) w := .trans (by kernel_rfl) rfl
theorem aid (v : Value) (w : World) (K : KV) : taT P (.iface T.t v) T.an T.h true w K = K (.tuple #[.agg #[.int .u64 0, .int .u64 0, .int .u64 0, .slice none 0 0], .bool false]) w := .trans (by kernel_rfl) rfl
theorem aum (v : Value) (rx ry : Operand) (w : World) (K : KV) : gh P .eql T.an rx ry (.iface T.t v) .nilIface w K = K (.bool false) w := .trans (by kernel_rfl) rfl
theorem afx (v : Value) (w : World) (K : KV) : taT P (.iface T.x v) T.an T.r true w K = K (.tuple #[.agg #[.int .u64 0, .bool false, .slice none 0 0], .bool false]) w := .trans (by kernel_rfl) rfl
theorem ady (v : Value) (w : World) (K : KV) : taT P (.iface T.x v) T.an T.t true w K = K (.tuple #[.agg #[.slice none 0 0], .bool false]) w := .trans (by kernel_rfl) rfl
theorem aoi (v : Value) (w : World) (K : KV) : taT P (.iface T.x v) T.an T.h true w K = K (.tuple #[.agg #[.int .u64 0, .int .u64 0, .int .u64 0, .slice none 0 0], .bool false]) w := .trans (by kernel_rfl) rfl
theorem bgz (v : Value) (rx ry : Operand) (w : World) (K : KV) : gh P .eql T.an rx ry (.iface T.x v) .nilIface w K = K (.bool false) w := .trans (by kernel_rfl) rfl
theorem aea (v : Value) (w : World) (K : KV) : taT P (.iface T.m v) T.an T.r true w K = K (.tuple #[.agg #[.int .u64 0, .bool false, .slice none 0 0], .bool false]) w := .trans (by kernel_rfl) rfl
theorem abr (v : Value) (w : World) (K : KV) : taT P (.iface T.m v) T.an T.t true w K = K (.tuple #[.agg #[.slice none 0 0], .bool false]) w := .trans (by kernel_rfl) rfl
theorem ahc (v : Value) (w : World) (K : KV) : taT P (.iface T.m v) T.an T.x true w K = K (.tuple #[.agg #[.int .u64 0, .int .u64 0, .int .u64 0, .int .i64 0], .bool false]) w := .trans (by kernel_rfl) rfl
theorem akg (v : Value) (w : World) (K : KV) : taT P (.iface T.m v) T.an T.h true w K = K (.tuple #[.agg #[.int .u64 0, .int .u64 0, .int .u64 0, .slice none 0 0], .bool false]) w := .trans (by kernel_rfl) rfl
theorem bbn (v : Value) (rx ry : Operand) (w : World) (K : KV) : gh P .eql T.an rx ry (.iface T.m v) .nilIface w K = K (.bool false) w := .trans (by kernel_rfl) rfl
theorem afi (v : Value) (w : World) (K : KV) : taT P (.iface T.y v) T.an T.r true w K = K (.tuple #[.agg #[.int .u64 0, .bool false, .slice none 0 0], .bool false]) w := .trans (by kernel_rfl) rfl
theorem acv (v : Value) (w : World) (K : KV) : taT P (.iface T.y v) T.an T.t true w K = K (.tuple #[.agg #[.slice none 0 0], .bool false]) w := .trans (by kernel_rfl) rfl
theorem aig (v : Value) (w : World) (K : KV) : taT P (.iface T.y v) T.an T.x true w K = K (.tuple #[.agg #[.int .u64 0, .int .u64 0, .int .u64 0, .int .i64 0], .bool false]) w := .trans (by kernel_rfl) rfl
theorem afn (v : Value) (w : World) (K : KV) : taT P (.iface T.y v) T.an T.m true w K = K (.tuple #[.agg #[.int .u64 0, .int .u64 0, .int .u64 0, .bool false, .int .u64 0, .int .u64 0, .int .i64 0, .bool false], .bool false]) w := .trans (by kernel_rfl) rfl
theorem amp (v : Value) (w : World) (K : KV) : taT P (.iface T.y v) T.an T.h true w K = K (.tuple #[.agg #[.int .u64 0, .int .u64 0, .int .u64 0, .slice none 0 0], .bool false]) w := .trans (by kernel_rfl) rfl
theorem bdc (v : Value) (rx ry : Operand) (w : World) (K : KV) : gh P .eql T.an rx ry (.iface T.y v) .nilIface w K = K (.bool false) w := .trans (by kernel_rfl) rfl
theorem acn (v : Value) (w : World) (K : KV) : taT P (.iface T.h v) T.an T.r true w K = K (.tuple #[.agg #[.int .u64 0, .bool false, .slice none 0 0], .bool false]) w := .trans (by kernel_rfl) rfl
theorem aax (v : Value) (w : World) (K : KV) : taT P (.iface T.h v) T.an T.t true w K = K (.tuple #[.agg #[.slice none 0 0], .bool false]) w := .trans (by kernel_rfl) rfl
theorem afk (v : Value) (w : World) (K : KV) : taT P (.iface T.h v) T.an T.x true w K = K (.tuple #[.agg #[.int .u64 0, .int .u64 0, .int .u64 0, .int .i64 0], .bool false]) w := .trans (by kernel_rfl) rfl
theorem acq (v : Value) (w : World) (K : KV) : taT P (.iface T.h v) T.an T.m true w K = K (.tuple #[.agg #[.int .u64 0, .int .u64 0, .int .u64 0, .bool false, .int .u64 0, .int .u64 0, .int .i64 0, .bool false], .bool false]) w := .trans (by kernel_rfl) rfl
theorem adp (v : Value) (w : World) (K : KV) : taT P (.iface T.h v) T.an T.y true w K = K (.tuple #[.agg #[.int .u64 0, .int .i64 0], .bool false]) w := .trans (by kernel_rfl) rfl
theorem ayl (v : Value) (rx ry : Operand) (w : World) (K : KV) : gh P .eql T.an rx ry (.iface T.h v) .nilIface w K = K (.bool false) w := .trans (by kernel_rfl) rfl
theorem zy (v : Value) (w : World) (K : KV) : taT P (.iface T.n v) T.an T.r true w K = K (.tuple #[.agg #[.int .u64 0, .bool false, .slice none 0 0], .bool false]) w := .trans (by kernel_rfl) rfl
theorem yj (v : Value) (w : World) (K : KV) : taT P (.iface T.n v) T.an T.t true w K = K (.tuple #[.agg #[.slice none 0 0], .bool false]) w := .trans (by kernel_rfl) rfl
theorem ach (v : Value) (w : World) (K : KV) : taT P (.iface T.n v) T.an T.x true w K = K (.tuple #[.agg #[.int .u64 0, .int .u64 0, .int .u64 0, .int .i64 0], .bool false]) w := .trans (by kernel_rfl) rfl
theorem zp (v : Value) (w : World) (K : KV) : taT P (.iface T.n v) T.an T.m true w K = K (.tuple #[.agg #[.int .u64 0, .int .u64 0, .int .u64 0, .bool false, .int .u64 0, .int .u64 0, .int .i64 0, .bool false], .bool false]) w := .trans (by kernel_rfl) rfl
theorem aat (v : Value) (w : World) (K : KV) : taT P (.iface T.n v) T.an T.y true w K = K (.tuple #[.agg #[.int .u64 0, .int .i64 0], .bool false]) w := .trans (by kernel_rfl) rfl
theorem vu (v : Value) (w : World) (K : KV) : taT P (.iface T.n v) T.an T.h true w K = K (.tuple #[.agg #[.int .u64 0, .int .u64 0, .int .u64 0, .slice none 0 0], .bool false]) w := .trans (by kernel_rfl) rfl
theorem bbm (v : Value) (rx ry : Operand) (w : World) (K : KV) : gh P .eql T.an rx ry (.iface T.n v) .nilIface w K = K (.bool false) w := .trans (by kernel_rfl) rfl
def aeq (x : Int) : List Value := [.int .u8 x]
theorem jp (x : Int) : (aeq x).length = 1 := rfl
theorem wi (x : Int) : ∀ u ∈ aeq x, ke u = true := fun u hu => by simp [aeq] at hu; subst hu; rfl
structure Mem where
 id : Int
 inc : Int
 st : Int
 deriving DecidableEq
def abt (m : Mem) : List Value := [.int .u64 m.id, .int .u64 m.inc, .int .i64 m.st]
theorem asr (m : Mem) : (abt m).length = 3 := rfl
theorem bdq (m : Mem) : ∀ u ∈ abt m, ke u = true := fun u hu => by simp [abt] at hu; rcases hu with rfl | rfl | rfl <;> rfl
end Go.Proofs.YtfnhoaemapheoaaGreat
