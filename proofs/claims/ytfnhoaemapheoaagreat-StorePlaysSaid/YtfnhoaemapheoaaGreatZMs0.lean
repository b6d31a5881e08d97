/-
  Things of package message: one type is not another. No condition.
-/
import Derived.Test.YtfnhoaemapheoaaGreatN
import Derived.Test.YtfnhoaemapheoaaGreatZEng
import Derived.Test.YtfnhoaemapheoaaGreatZEngSl
set_option maxRecDepth 100000
namespace Go.Proofs.YtfnhoaemapheoaaGreat
open Go.Eng
theorem alj (v : Value) (w : World) (K : KV) : taT P (.iface T.s v) T.ar T.i true w K = K (.tuple #[.agg #[.int .u64 0, .int .u64 0, .int .u64 0, .slice none 0 0], .bool false]) w := kr
theorem bda (v : Value) (rx ry : Operand) (w : World) (K : KV) : ik P .eql T.ar rx ry (.iface T.s v) .nilIface w K = K (.bool false) w := kr
theorem aka (v : Value) (w : World) (K : KV) : taT P (.iface T.u v) T.ar T.i true w K = K (.tuple #[.agg #[.int .u64 0, .int .u64 0, .int .u64 0, .slice none 0 0], .bool false]) w := kr
theorem aws (v : Value) (rx ry : Operand) (w : World) (K : KV) : ik P .eql T.ar rx ry (.iface T.u v) .nilIface w K = K (.bool false) w := kr
theorem aiy (v : Value) (w : World) (K : KV) : taT P (.iface T.y v) T.ar T.s true w K = K (.tuple #[.agg #[.int .u64 0, .bool false, .slice none 0 0], .bool false]) w := kr
theorem afi (v : Value) (w : World) (K : KV) : taT P (.iface T.y v) T.ar T.u true w K = K (.tuple #[.agg #[.slice none 0 0], .bool false]) w := kr
theorem aqb (v : Value) (w : World) (K : KV) : taT P (.iface T.y v) T.ar T.i true w K = K (.tuple #[.agg #[.int .u64 0, .int .u64 0, .int .u64 0, .slice none 0 0], .bool false]) w := kr
theorem bkl (v : Value) (rx ry : Operand) (w : World) (K : KV) : ik P .eql T.ar rx ry (.iface T.y v) .nilIface w K = K (.bool false) w := kr
theorem afo (v : Value) (w : World) (K : KV) : taT P (.iface T.n v) T.ar T.s true w K = K (.tuple #[.agg #[.int .u64 0, .bool false, .slice none 0 0], .bool false]) w := kr
theorem adl (v : Value) (w : World) (K : KV) : taT P (.iface T.n v) T.ar T.u true w K = K (.tuple #[.agg #[.slice none 0 0], .bool false]) w := kr
theorem ahr (v : Value) (w : World) (K : KV) : taT P (.iface T.n v) T.ar T.y true w K = K (.tuple #[.agg #[.int .u64 0, .int .u64 0, .int .u64 0, .int .i64 0], .bool false]) w := kr
theorem alz (v : Value) (w : World) (K : KV) : taT P (.iface T.n v) T.ar T.i true w K = K (.tuple #[.agg #[.int .u64 0, .int .u64 0, .int .u64 0, .slice none 0 0], .bool false]) w := kr
theorem bbu (v : Value) (rx ry : Operand) (w : World) (K : KV) : ik P .eql T.ar rx ry (.iface T.n v) .nilIface w K = K (.bool false) w := kr
theorem ahc (v : Value) (w : World) (K : KV) : taT P (.iface T.z v) T.ar T.s true w K = K (.tuple #[.agg #[.int .u64 0, .bool false, .slice none 0 0], .bool false]) w := kr
theorem adw (v : Value) (w : World) (K : KV) : taT P (.iface T.z v) T.ar T.u true w K = K (.tuple #[.agg #[.slice none 0 0], .bool false]) w := kr
theorem akb (v : Value) (w : World) (K : KV) : taT P (.iface T.z v) T.ar T.y true w K = K (.tuple #[.agg #[.int .u64 0, .int .u64 0, .int .u64 0, .int .i64 0], .bool false]) w := kr
theorem agy (v : Value) (w : World) (K : KV) : taT P (.iface T.z v) T.ar T.n true w K = K (.tuple #[.agg #[.int .u64 0, .int .u64 0, .int .u64 0, .bool false, .int .u64 0, .int .u64 0, .int .i64 0, .bool false], .bool false]) w := kr
theorem ann (v : Value) (w : World) (K : KV) : taT P (.iface T.z v) T.ar T.i true w K = K (.tuple #[.agg #[.int .u64 0, .int .u64 0, .int .u64 0, .slice none 0 0], .bool false]) w := kr
theorem bge (v : Value) (rx ry : Operand) (w : World) (K : KV) : ik P .eql T.ar rx ry (.iface T.z v) .nilIface w K = K (.bool false) w := kr
theorem aed (v : Value) (w : World) (K : KV) : taT P (.iface T.i v) T.ar T.s true w K = K (.tuple #[.agg #[.int .u64 0, .bool false, .slice none 0 0], .bool false]) w := kr
theorem ace (v : Value) (w : World) (K : KV) : taT P (.iface T.i v) T.ar T.u true w K = K (.tuple #[.agg #[.slice none 0 0], .bool false]) w := kr
theorem ahf (v : Value) (w : World) (K : KV) : taT P (.iface T.i v) T.ar T.y true w K = K (.tuple #[.agg #[.int .u64 0, .int .u64 0, .int .u64 0, .int .i64 0], .bool false]) w := kr
theorem aee (v : Value) (w : World) (K : KV) : taT P (.iface T.i v) T.ar T.n true w K = K (.tuple #[.agg #[.int .u64 0, .int .u64 0, .int .u64 0, .bool false, .int .u64 0, .int .u64 0, .int .i64 0, .bool false], .bool false]) w := kr
theorem afh (v : Value) (w : World) (K : KV) : taT P (.iface T.i v) T.ar T.z true w K = K (.tuple #[.agg #[.int .u64 0, .int .i64 0], .bool false]) w := kr
theorem bbf (v : Value) (rx ry : Operand) (w : World) (K : KV) : ik P .eql T.ar rx ry (.iface T.i v) .nilIface w K = K (.bool false) w := kr
theorem aax (v : Value) (w : World) (K : KV) : taT P (.iface T.o v) T.ar T.s true w K = K (.tuple #[.agg #[.int .u64 0, .bool false, .slice none 0 0], .bool false]) w := kr
theorem zj (v : Value) (w : World) (K : KV) : taT P (.iface T.o v) T.ar T.u true w K = K (.tuple #[.agg #[.slice none 0 0], .bool false]) w := kr
theorem adp (v : Value) (w : World) (K : KV) : taT P (.iface T.o v) T.ar T.y true w K = K (.tuple #[.agg #[.int .u64 0, .int .u64 0, .int .u64 0, .int .i64 0], .bool false]) w := kr
theorem aao (v : Value) (w : World) (K : KV) : taT P (.iface T.o v) T.ar T.n true w K = K (.tuple #[.agg #[.int .u64 0, .int .u64 0, .int .u64 0, .bool false, .int .u64 0, .int .u64 0, .int .i64 0, .bool false], .bool false]) w := kr
theorem abw (v : Value) (w : World) (K : KV) : taT P (.iface T.o v) T.ar T.z true w K = K (.tuple #[.agg #[.int .u64 0, .int .i64 0], .bool false]) w := kr
theorem xa (v : Value) (w : World) (K : KV) : taT P (.iface T.o v) T.ar T.i true w K = K (.tuple #[.agg #[.int .u64 0, .int .u64 0, .int .u64 0, .slice none 0 0], .bool false]) w := kr
theorem bey (v : Value) (rx ry : Operand) (w : World) (K : KV) : ik P .eql T.ar rx ry (.iface T.o v) .nilIface w K = K (.bool false) w := kr
def agk (x : Int) : List Value := [.int .u8 x]
theorem ka (x : Int) : (agk x).length = 1 := rfl
theorem xn (x : Int) : ∀ u ∈ agk x, kq u = true := fun u hu => by simp [agk] at hu; subst hu; rfl
structure Mem where
 id : Int
 inc : Int
 st : Int
 deriving DecidableEq
def adj (m : Mem) : List Value := [.int .u64 m.id, .int .u64 m.inc, .int .i64 m.st]
theorem avo (m : Mem) : (adj m).length = 3 := rfl
theorem bfo (m : Mem) : ∀ u ∈ adj m, kq u = true := fun u hu => by simp [adj] at hu; rcases hu with rfl | rfl | rfl <;> rfl
end Go.Proofs.YtfnhoaemapheoaaGreat
