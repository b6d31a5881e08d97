/-
  Things of package message: one type is not another. No condition.
-/
import Derived.Test.YtfnhoaemapheoaaGreatN
import Derived.Test.YtfnhoaemapheoaaGreatZEng
import Derived.Test.YtfnhoaemapheoaaGreatZEngSl
set_option maxRecDepth 100000
namespace Go.Proofs.YtfnhoaemapheoaaGreat
open Go.Eng
theorem aor (v : Value) (w : World) (K : KV) : taT P (.iface T.y v) T.aq T.p true w K = K (.tuple #[.agg #[.int .u64 0, .int .u64 0, .int .u64 0, .int .i64 0], .bool false]) w := .trans (by kernel_rfl) rfl
theorem awj (v : Value) (rx ry : Operand) (w : World) (K : KV) : fi P .eql T.aq rx ry (.iface T.y v) .nilIface w K = K (.bool false) w := .trans (by kernel_rfl) rfl
theorem ali (v : Value) (w : World) (K : KV) : taT P (.iface T.aa v) T.aq T.p true w K = K (.tuple #[.agg #[.int .u64 0, .int .u64 0, .int .u64 0, .int .i64 0], .bool false]) w := .trans (by kernel_rfl) rfl
theorem asl (v : Value) (rx ry : Operand) (w : World) (K : KV) : fi P .eql T.aq rx ry (.iface T.aa v) .nilIface w K = K (.bool false) w := .trans (by kernel_rfl) rfl
theorem agr (v : Value) (w : World) (K : KV) : taT P (.iface T.p v) T.aq T.y true w K = K (.tuple #[.agg #[.int .u64 0, .bool false, .slice none 0 0], .bool false]) w := .trans (by kernel_rfl) rfl
theorem aed (v : Value) (w : World) (K : KV) : taT P (.iface T.p v) T.aq T.aa true w K = K (.tuple #[.agg #[.slice none 0 0], .bool false]) w := .trans (by kernel_rfl) rfl
theorem bdn (v : Value) (rx ry : Operand) (w : World) (K : KV) : fi P .eql T.aq rx ry (.iface T.p v) .nilIface w K = K (.bool false) w := .trans (by kernel_rfl) rfl
theorem adp (v : Value) (w : World) (K : KV) : taT P (.iface T.s v) T.aq T.y true w K = K (.tuple #[.agg #[.int .u64 0, .bool false, .slice none 0 0], .bool false]) w := .trans (by kernel_rfl) rfl
theorem abq (v : Value) (w : World) (K : KV) : taT P (.iface T.s v) T.aq T.aa true w K = K (.tuple #[.agg #[.slice none 0 0], .bool false]) w := .trans (by kernel_rfl) rfl
theorem aaz (v : Value) (w : World) (K : KV) : taT P (.iface T.s v) T.aq T.p true w K = K (.tuple #[.agg #[.int .u64 0, .int .u64 0, .int .u64 0, .int .i64 0], .bool false]) w := .trans (by kernel_rfl) rfl
theorem azh (v : Value) (rx ry : Operand) (w : World) (K : KV) : fi P .eql T.aq rx ry (.iface T.s v) .nilIface w K = K (.bool false) w := .trans (by kernel_rfl) rfl
theorem afi (v : Value) (w : World) (K : KV) : taT P (.iface T.ae v) T.aq T.y true w K = K (.tuple #[.agg #[.int .u64 0, .bool false, .slice none 0 0], .bool false]) w := .trans (by kernel_rfl) rfl
theorem aci (v : Value) (w : World) (K : KV) : taT P (.iface T.ae v) T.aq T.aa true w K = K (.tuple #[.agg #[.slice none 0 0], .bool false]) w := .trans (by kernel_rfl) rfl
theorem act (v : Value) (w : World) (K : KV) : taT P (.iface T.ae v) T.aq T.p true w K = K (.tuple #[.agg #[.int .u64 0, .int .u64 0, .int .u64 0, .int .i64 0], .bool false]) w := .trans (by kernel_rfl) rfl
theorem afn (v : Value) (w : World) (K : KV) : taT P (.iface T.ae v) T.aq T.s true w K = K (.tuple #[.agg #[.int .u64 0, .int .u64 0, .int .u64 0, .bool false, .int .u64 0, .int .u64 0, .int .i64 0, .bool false], .bool false]) w := .trans (by kernel_rfl) rfl
theorem azv (v : Value) (rx ry : Operand) (w : World) (K : KV) : fi P .eql T.aq rx ry (.iface T.ae v) .nilIface w K = K (.bool false) w := .trans (by kernel_rfl) rfl
theorem acm (v : Value) (w : World) (K : KV) : taT P (.iface T.w v) T.aq T.y true w K = K (.tuple #[.agg #[.int .u64 0, .bool false, .slice none 0 0], .bool false]) w := .trans (by kernel_rfl) rfl
theorem aae (v : Value) (w : World) (K : KV) : taT P (.iface T.w v) T.aq T.aa true w K = K (.tuple #[.agg #[.slice none 0 0], .bool false]) w := .trans (by kernel_rfl) rfl
theorem aab (v : Value) (w : World) (K : KV) : taT P (.iface T.w v) T.aq T.p true w K = K (.tuple #[.agg #[.int .u64 0, .int .u64 0, .int .u64 0, .int .i64 0], .bool false]) w := .trans (by kernel_rfl) rfl
theorem ace (v : Value) (w : World) (K : KV) : taT P (.iface T.w v) T.aq T.s true w K = K (.tuple #[.agg #[.int .u64 0, .int .u64 0, .int .u64 0, .bool false, .int .u64 0, .int .u64 0, .int .i64 0, .bool false], .bool false]) w := .trans (by kernel_rfl) rfl
theorem adk (v : Value) (w : World) (K : KV) : taT P (.iface T.w v) T.aq T.ae true w K = K (.tuple #[.agg #[.int .u64 0, .int .i64 0], .bool false]) w := .trans (by kernel_rfl) rfl
theorem avx (v : Value) (rx ry : Operand) (w : World) (K : KV) : fi P .eql T.aq rx ry (.iface T.w v) .nilIface w K = K (.bool false) w := .trans (by kernel_rfl) rfl
theorem ado (v : Value) (w : World) (K : KV) : taT P (.iface T.ab v) T.aq T.y true w K = K (.tuple #[.agg #[.int .u64 0, .bool false, .slice none 0 0], .bool false]) w := .trans (by kernel_rfl) rfl
theorem abv (v : Value) (w : World) (K : KV) : taT P (.iface T.ab v) T.aq T.aa true w K = K (.tuple #[.agg #[.slice none 0 0], .bool false]) w := .trans (by kernel_rfl) rfl
theorem acb (v : Value) (w : World) (K : KV) : taT P (.iface T.ab v) T.aq T.p true w K = K (.tuple #[.agg #[.int .u64 0, .int .u64 0, .int .u64 0, .int .i64 0], .bool false]) w := .trans (by kernel_rfl) rfl
theorem adu (v : Value) (w : World) (K : KV) : taT P (.iface T.ab v) T.aq T.s true w K = K (.tuple #[.agg #[.int .u64 0, .int .u64 0, .int .u64 0, .bool false, .int .u64 0, .int .u64 0, .int .i64 0, .bool false], .bool false]) w := .trans (by kernel_rfl) rfl
theorem afj (v : Value) (w : World) (K : KV) : taT P (.iface T.ab v) T.aq T.ae true w K = K (.tuple #[.agg #[.int .u64 0, .int .i64 0], .bool false]) w := .trans (by kernel_rfl) rfl
theorem acp (v : Value) (w : World) (K : KV) : taT P (.iface T.ab v) T.aq T.w true w K = K (.tuple #[.agg #[.int .u64 0, .int .u64 0, .int .u64 0, .slice none 0 0], .bool false]) w := .trans (by kernel_rfl) rfl
theorem axy (v : Value) (rx ry : Operand) (w : World) (K : KV) : fi P .eql T.aq rx ry (.iface T.ab v) .nilIface w K = K (.bool false) w := .trans (by kernel_rfl) rfl
def aey (x : Int) : List Value := [.int .u8 x]
theorem jd (x : Int) : (aey x).length = 1 := rfl
theorem xf (x : Int) : ∀ u ∈ aey x, jr u = true := fun u hu => by simp [aey] at hu; subst hu; rfl
structure Mem where
 id : Int
 inc : Int
 st : Int
 deriving DecidableEq
def aca (m : Mem) : List Value := [.int .u64 m.id, .int .u64 m.inc, .int .i64 m.st]
theorem apx (m : Mem) : (aca m).length = 3 := rfl
theorem bap (m : Mem) : ∀ u ∈ aca m, jr u = true := fun u hu => by simp [aca] at hu; rcases hu with rfl | rfl | rfl <;> rfl
end Go.Proofs.YtfnhoaemapheoaaGreat
