/-
  Things of package message: one type is not another. No condition.
-/
import Derived.Test.YtfnhoaemapheoaaGreatN
import Derived.Test.YtfnhoaemapheoaaGreatZEng
import Derived.Test.YtfnhoaemapheoaaGreatZEngSl
set_option maxRecDepth 100000
namespace Go.Proofs.YtfnhoaemapheoaaGreat
open Go.Eng
theorem amv (v : Value) (w : World) (K : KV) : taT P (.iface T.s v) T.au T.j true w K = K (.tuple #[.agg #[.int .u64 0, .int .u64 0, .int .u64 0, .slice none 0 0], .bool false]) w := kr
theorem bbx (v : Value) (rx ry : Operand) (w : World) (K : KV) : ij P .eql T.au rx ry (.iface T.s v) .nilIface w K = K (.bool false) w := kr
theorem ajx (v : Value) (w : World) (K : KV) : taT P (.iface T.u v) T.au T.j true w K = K (.tuple #[.agg #[.int .u64 0, .int .u64 0, .int .u64 0, .slice none 0 0], .bool false]) w := kr
theorem awp (v : Value) (rx ry : Operand) (w : World) (K : KV) : ij P .eql T.au rx ry (.iface T.u v) .nilIface w K = K (.bool false) w := kr
theorem ais (v : Value) (w : World) (K : KV) : taT P (.iface T.y v) T.au T.s true w K = K (.tuple #[.agg #[.int .u64 0, .bool false, .slice none 0 0], .bool false]) w := kr
theorem afk (v : Value) (w : World) (K : KV) : taT P (.iface T.y v) T.au T.u true w K = K (.tuple #[.agg #[.slice none 0 0], .bool false]) w := kr
theorem aqd (v : Value) (w : World) (K : KV) : taT P (.iface T.y v) T.au T.j true w K = K (.tuple #[.agg #[.int .u64 0, .int .u64 0, .int .u64 0, .slice none 0 0], .bool false]) w := kr
theorem bjw (v : Value) (rx ry : Operand) (w : World) (K : KV) : ij P .eql T.au rx ry (.iface T.y v) .nilIface w K = K (.bool false) w := kr
theorem afp (v : Value) (w : World) (K : KV) : taT P (.iface T.n v) T.au T.s true w K = K (.tuple #[.agg #[.int .u64 0, .bool false, .slice none 0 0], .bool false]) w := kr
theorem adj (v : Value) (w : World) (K : KV) : taT P (.iface T.n v) T.au T.u true w K = K (.tuple #[.agg #[.slice none 0 0], .bool false]) w := kr
theorem aht (v : Value) (w : World) (K : KV) : taT P (.iface T.n v) T.au T.y true w K = K (.tuple #[.agg #[.int .u64 0, .int .u64 0, .int .u64 0, .int .i64 0], .bool false]) w := kr
theorem ams (v : Value) (w : World) (K : KV) : taT P (.iface T.n v) T.au T.j true w K = K (.tuple #[.agg #[.int .u64 0, .int .u64 0, .int .u64 0, .slice none 0 0], .bool false]) w := kr
theorem bed (v : Value) (rx ry : Operand) (w : World) (K : KV) : ij P .eql T.au rx ry (.iface T.n v) .nilIface w K = K (.bool false) w := kr
theorem agy (v : Value) (w : World) (K : KV) : taT P (.iface T.z v) T.au T.s true w K = K (.tuple #[.agg #[.int .u64 0, .bool false, .slice none 0 0], .bool false]) w := kr
theorem aee (v : Value) (w : World) (K : KV) : taT P (.iface T.z v) T.au T.u true w K = K (.tuple #[.agg #[.slice none 0 0], .bool false]) w := kr
theorem akg (v : Value) (w : World) (K : KV) : taT P (.iface T.z v) T.au T.y true w K = K (.tuple #[.agg #[.int .u64 0, .int .u64 0, .int .u64 0, .int .i64 0], .bool false]) w := kr
theorem ahg (v : Value) (w : World) (K : KV) : taT P (.iface T.z v) T.au T.n true w K = K (.tuple #[.agg #[.int .u64 0, .int .u64 0, .int .u64 0, .bool false, .int .u64 0, .int .u64 0, .int .i64 0, .bool false], .bool false]) w := kr
theorem aoa (v : Value) (w : World) (K : KV) : taT P (.iface T.z v) T.au T.j true w K = K (.tuple #[.agg #[.int .u64 0, .int .u64 0, .int .u64 0, .slice none 0 0], .bool false]) w := kr
theorem bfm (v : Value) (rx ry : Operand) (w : World) (K : KV) : ij P .eql T.au rx ry (.iface T.z v) .nilIface w K = K (.bool false) w := kr
theorem adw (v : Value) (w : World) (K : KV) : taT P (.iface T.j v) T.au T.s true w K = K (.tuple #[.agg #[.int .u64 0, .bool false, .slice none 0 0], .bool false]) w := kr
theorem aca (v : Value) (w : World) (K : KV) : taT P (.iface T.j v) T.au T.u true w K = K (.tuple #[.agg #[.slice none 0 0], .bool false]) w := kr
theorem ahf (v : Value) (w : World) (K : KV) : taT P (.iface T.j v) T.au T.y true w K = K (.tuple #[.agg #[.int .u64 0, .int .u64 0, .int .u64 0, .int .i64 0], .bool false]) w := kr
theorem adx (v : Value) (w : World) (K : KV) : taT P (.iface T.j v) T.au T.n true w K = K (.tuple #[.agg #[.int .u64 0, .int .u64 0, .int .u64 0, .bool false, .int .u64 0, .int .u64 0, .int .i64 0, .bool false], .bool false]) w := kr
theorem afg (v : Value) (w : World) (K : KV) : taT P (.iface T.j v) T.au T.z true w K = K (.tuple #[.agg #[.int .u64 0, .int .i64 0], .bool false]) w := kr
theorem ayr (v : Value) (rx ry : Operand) (w : World) (K : KV) : ij P .eql T.au rx ry (.iface T.j v) .nilIface w K = K (.bool false) w := kr
theorem aau (v : Value) (w : World) (K : KV) : taT P (.iface T.o v) T.au T.s true w K = K (.tuple #[.agg #[.int .u64 0, .bool false, .slice none 0 0], .bool false]) w := kr
theorem zn (v : Value) (w : World) (K : KV) : taT P (.iface T.o v) T.au T.u true w K = K (.tuple #[.agg #[.slice none 0 0], .bool false]) w := kr
theorem adu (v : Value) (w : World) (K : KV) : taT P (.iface T.o v) T.au T.y true w K = K (.tuple #[.agg #[.int .u64 0, .int .u64 0, .int .u64 0, .int .i64 0], .bool false]) w := kr
theorem aam (v : Value) (w : World) (K : KV) : taT P (.iface T.o v) T.au T.n true w K = K (.tuple #[.agg #[.int .u64 0, .int .u64 0, .int .u64 0, .bool false, .int .u64 0, .int .u64 0, .int .i64 0, .bool false], .bool false]) w := kr
theorem abz (v : Value) (w : World) (K : KV) : taT P (.iface T.o v) T.au T.z true w K = K (.tuple #[.agg #[.int .u64 0, .int .i64 0], .bool false]) w := kr
theorem xe (v : Value) (w : World) (K : KV) : taT P (.iface T.o v) T.au T.j true w K = K (.tuple #[.agg #[.int .u64 0, .int .u64 0, .int .u64 0, .slice none 0 0], .bool false]) w := kr
theorem bdw (v : Value) (rx ry : Operand) (w : World) (K : KV) : ij P .eql T.au rx ry (.iface T.o v) .nilIface w K = K (.bool false) w := kr
def agt (x : Int) : List Value := [.int .u8 x]
theorem ka (x : Int) : (agt x).length = 1 := rfl
theorem xo (x : Int) : ∀ u ∈ agt x, kq u = true := fun u hu => by simp [agt] at hu; subst hu; rfl
structure Mem where
 id : Int
 inc : Int
 st : Int
 deriving DecidableEq
def adr (m : Mem) : List Value := [.int .u64 m.id, .int .u64 m.inc, .int .i64 m.st]
theorem auk (m : Mem) : (adr m).length = 3 := rfl
theorem bhc (m : Mem) : ∀ u ∈ adr m, kq u = true := fun u hu => by simp [adr] at hu; rcases hu with rfl | rfl | rfl <;> rfl
end Go.Proofs.YtfnhoaemapheoaaGreat
