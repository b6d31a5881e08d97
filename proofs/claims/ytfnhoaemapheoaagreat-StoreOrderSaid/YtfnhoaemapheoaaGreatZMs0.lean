/-
  Things of package message: one type is not another. No condition.
-/
import Derived.Test.YtfnhoaemapheoaaGreatN
import Derived.Test.YtfnhoaemapheoaaGreatZEng
import Derived.Test.YtfnhoaemapheoaaGreatZEngSl
set_option maxRecDepth 100000
namespace Go.Proofs.YtfnhoaemapheoaaGreat
open Go.Eng
theorem alz (v : Value) (w : World) (K : KV) : taT P (.iface T.r v) T.ap T.h true w K = K (.tuple #[.agg #[.int .u64 0, .int .u64 0, .int .u64 0, .slice none 0 0], .bool false]) w := kr
theorem bdk (v : Value) (rx ry : Operand) (w : World) (K : KV) : ib P .eql T.ap rx ry (.iface T.r v) .nilIface w K = K (.bool false) w := kr
theorem ajf (v : Value) (w : World) (K : KV) : taT P (.iface T.t v) T.ap T.h true w K = K (.tuple #[.agg #[.int .u64 0, .int .u64 0, .int .u64 0, .slice none 0 0], .bool false]) w := kr
theorem awh (v : Value) (rx ry : Operand) (w : World) (K : KV) : ib P .eql T.ap rx ry (.iface T.t v) .nilIface w K = K (.bool false) w := kr
theorem agr (v : Value) (w : World) (K : KV) : taT P (.iface T.y v) T.ap T.r true w K = K (.tuple #[.agg #[.int .u64 0, .bool false, .slice none 0 0], .bool false]) w := kr
theorem afb (v : Value) (w : World) (K : KV) : taT P (.iface T.y v) T.ap T.t true w K = K (.tuple #[.agg #[.slice none 0 0], .bool false]) w := kr
theorem apl (v : Value) (w : World) (K : KV) : taT P (.iface T.y v) T.ap T.h true w K = K (.tuple #[.agg #[.int .u64 0, .int .u64 0, .int .u64 0, .slice none 0 0], .bool false]) w := kr
theorem bkf (v : Value) (rx ry : Operand) (w : World) (K : KV) : ib P .eql T.ap rx ry (.iface T.y v) .nilIface w K = K (.bool false) w := kr
theorem aeo (v : Value) (w : World) (K : KV) : taT P (.iface T.m v) T.ap T.r true w K = K (.tuple #[.agg #[.int .u64 0, .bool false, .slice none 0 0], .bool false]) w := kr
theorem acp (v : Value) (w : World) (K : KV) : taT P (.iface T.m v) T.ap T.t true w K = K (.tuple #[.agg #[.slice none 0 0], .bool false]) w := kr
theorem ahz (v : Value) (w : World) (K : KV) : taT P (.iface T.m v) T.ap T.y true w K = K (.tuple #[.agg #[.int .u64 0, .int .u64 0, .int .u64 0, .int .i64 0], .bool false]) w := kr
theorem aks (v : Value) (w : World) (K : KV) : taT P (.iface T.m v) T.ap T.h true w K = K (.tuple #[.agg #[.int .u64 0, .int .u64 0, .int .u64 0, .slice none 0 0], .bool false]) w := kr
theorem bbn (v : Value) (rx ry : Operand) (w : World) (K : KV) : ib P .eql T.ap rx ry (.iface T.m v) .nilIface w K = K (.bool false) w := kr
theorem agm (v : Value) (w : World) (K : KV) : taT P (.iface T.z v) T.ap T.r true w K = K (.tuple #[.agg #[.int .u64 0, .bool false, .slice none 0 0], .bool false]) w := kr
theorem ads (v : Value) (w : World) (K : KV) : taT P (.iface T.z v) T.ap T.t true w K = K (.tuple #[.agg #[.slice none 0 0], .bool false]) w := kr
theorem ajm (v : Value) (w : World) (K : KV) : taT P (.iface T.z v) T.ap T.y true w K = K (.tuple #[.agg #[.int .u64 0, .int .u64 0, .int .u64 0, .int .i64 0], .bool false]) w := kr
theorem agi (v : Value) (w : World) (K : KV) : taT P (.iface T.z v) T.ap T.m true w K = K (.tuple #[.agg #[.int .u64 0, .int .u64 0, .int .u64 0, .bool false, .int .u64 0, .int .u64 0, .int .i64 0, .bool false], .bool false]) w := kr
theorem aoc (v : Value) (w : World) (K : KV) : taT P (.iface T.z v) T.ap T.h true w K = K (.tuple #[.agg #[.int .u64 0, .int .u64 0, .int .u64 0, .slice none 0 0], .bool false]) w := kr
theorem bgp (v : Value) (rx ry : Operand) (w : World) (K : KV) : ib P .eql T.ap rx ry (.iface T.z v) .nilIface w K = K (.bool false) w := kr
theorem adi (v : Value) (w : World) (K : KV) : taT P (.iface T.h v) T.ap T.r true w K = K (.tuple #[.agg #[.int .u64 0, .bool false, .slice none 0 0], .bool false]) w := kr
theorem abl (v : Value) (w : World) (K : KV) : taT P (.iface T.h v) T.ap T.t true w K = K (.tuple #[.agg #[.slice none 0 0], .bool false]) w := kr
theorem agp (v : Value) (w : World) (K : KV) : taT P (.iface T.h v) T.ap T.y true w K = K (.tuple #[.agg #[.int .u64 0, .int .u64 0, .int .u64 0, .int .i64 0], .bool false]) w := kr
theorem adg (v : Value) (w : World) (K : KV) : taT P (.iface T.h v) T.ap T.m true w K = K (.tuple #[.agg #[.int .u64 0, .int .u64 0, .int .u64 0, .bool false, .int .u64 0, .int .u64 0, .int .i64 0, .bool false], .bool false]) w := kr
theorem aek (v : Value) (w : World) (K : KV) : taT P (.iface T.h v) T.ap T.z true w K = K (.tuple #[.agg #[.int .u64 0, .int .i64 0], .bool false]) w := kr
theorem ays (v : Value) (rx ry : Operand) (w : World) (K : KV) : ib P .eql T.ap rx ry (.iface T.h v) .nilIface w K = K (.bool false) w := kr
theorem aac (v : Value) (w : World) (K : KV) : taT P (.iface T.n v) T.ap T.r true w K = K (.tuple #[.agg #[.int .u64 0, .bool false, .slice none 0 0], .bool false]) w := kr
theorem yw (v : Value) (w : World) (K : KV) : taT P (.iface T.n v) T.ap T.t true w K = K (.tuple #[.agg #[.slice none 0 0], .bool false]) w := kr
theorem adb (v : Value) (w : World) (K : KV) : taT P (.iface T.n v) T.ap T.y true w K = K (.tuple #[.agg #[.int .u64 0, .int .u64 0, .int .u64 0, .int .i64 0], .bool false]) w := kr
theorem aad (v : Value) (w : World) (K : KV) : taT P (.iface T.n v) T.ap T.m true w K = K (.tuple #[.agg #[.int .u64 0, .int .u64 0, .int .u64 0, .bool false, .int .u64 0, .int .u64 0, .int .i64 0, .bool false], .bool false]) w := kr
theorem abc (v : Value) (w : World) (K : KV) : taT P (.iface T.n v) T.ap T.z true w K = K (.tuple #[.agg #[.int .u64 0, .int .i64 0], .bool false]) w := kr
theorem wo (v : Value) (w : World) (K : KV) : taT P (.iface T.n v) T.ap T.h true w K = K (.tuple #[.agg #[.int .u64 0, .int .u64 0, .int .u64 0, .slice none 0 0], .bool false]) w := kr
theorem bdu (v : Value) (rx ry : Operand) (w : World) (K : KV) : ib P .eql T.ap rx ry (.iface T.n v) .nilIface w K = K (.bool false) w := kr
def aga (x : Int) : List Value := [.int .u8 x]
theorem jr (x : Int) : (aga x).length = 1 := rfl
theorem xd (x : Int) : ∀ u ∈ aga x, kh u = true := fun u hu => by simp [aga] at hu; subst hu; rfl
structure Mem where
 id : Int
 inc : Int
 st : Int
 deriving DecidableEq
def acq (m : Mem) : List Value := [.int .u64 m.id, .int .u64 m.inc, .int .i64 m.st]
theorem aul (m : Mem) : (acq m).length = 3 := rfl
theorem bic (m : Mem) : ∀ u ∈ acq m, kh u = true := fun u hu => by simp [acq] at hu; rcases hu with rfl | rfl | rfl <;> rfl
end Go.Proofs.YtfnhoaemapheoaaGreat
