/-
  Things of package message: one type is not another. No condition.
-/
import Derived.Test.YtfnhoaemapheoaaGreatN
import Derived.Test.YtfnhoaemapheoaaGreatZEng
import Derived.Test.YtfnhoaemapheoaaGreatZEngSl
set_option maxRecDepth 100000
namespace Go.Proofs.YtfnhoaemapheoaaGreat
open Go.Eng
theorem ari (v : Value) (w : World) (K : KV) : taT P (.iface T.y v) T.aq T.p true w K = K (.tuple #[.agg #[.int .u64 0, .int .u64 0, .int .u64 0, .int .i64 0], .bool false]) w := .trans (by kernel_rfl) rfl
theorem axg (v : Value) (rx ry : Operand) (w : World) (K : KV) : fj P .eql T.aq rx ry (.iface T.y v) .nilIface w K = K (.bool false) w := .trans (by kernel_rfl) rfl
theorem ami (v : Value) (w : World) (K : KV) : taT P (.iface T.aa v) T.aq T.p true w K = K (.tuple #[.agg #[.int .u64 0, .int .u64 0, .int .u64 0, .int .i64 0], .bool false]) w := .trans (by kernel_rfl) rfl
theorem art (v : Value) (rx ry : Operand) (w : World) (K : KV) : fj P .eql T.aq rx ry (.iface T.aa v) .nilIface w K = K (.bool false) w := .trans (by kernel_rfl) rfl
theorem agx (v : Value) (w : World) (K : KV) : taT P (.iface T.p v) T.aq T.y true w K = K (.tuple #[.agg #[.int .u64 0, .bool false, .slice none 0 0], .bool false]) w := .trans (by kernel_rfl) rfl
theorem adu (v : Value) (w : World) (K : KV) : taT P (.iface T.p v) T.aq T.aa true w K = K (.tuple #[.agg #[.slice none 0 0], .bool false]) w := .trans (by kernel_rfl) rfl
theorem bev (v : Value) (rx ry : Operand) (w : World) (K : KV) : fj P .eql T.aq rx ry (.iface T.p v) .nilIface w K = K (.bool false) w := .trans (by kernel_rfl) rfl
theorem adw (v : Value) (w : World) (K : KV) : taT P (.iface T.s v) T.aq T.y true w K = K (.tuple #[.agg #[.int .u64 0, .bool false, .slice none 0 0], .bool false]) w := .trans (by kernel_rfl) rfl
theorem abl (v : Value) (w : World) (K : KV) : taT P (.iface T.s v) T.aq T.aa true w K = K (.tuple #[.agg #[.slice none 0 0], .bool false]) w := .trans (by kernel_rfl) rfl
theorem abm (v : Value) (w : World) (K : KV) : taT P (.iface T.s v) T.aq T.p true w K = K (.tuple #[.agg #[.int .u64 0, .int .u64 0, .int .u64 0, .int .i64 0], .bool false]) w := .trans (by kernel_rfl) rfl
theorem ayu (v : Value) (rx ry : Operand) (w : World) (K : KV) : fj P .eql T.aq rx ry (.iface T.s v) .nilIface w K = K (.bool false) w := .trans (by kernel_rfl) rfl
theorem afg (v : Value) (w : World) (K : KV) : taT P (.iface T.ae v) T.aq T.y true w K = K (.tuple #[.agg #[.int .u64 0, .bool false, .slice none 0 0], .bool false]) w := .trans (by kernel_rfl) rfl
theorem acr (v : Value) (w : World) (K : KV) : taT P (.iface T.ae v) T.aq T.aa true w K = K (.tuple #[.agg #[.slice none 0 0], .bool false]) w := .trans (by kernel_rfl) rfl
theorem acz (v : Value) (w : World) (K : KV) : taT P (.iface T.ae v) T.aq T.p true w K = K (.tuple #[.agg #[.int .u64 0, .int .u64 0, .int .u64 0, .int .i64 0], .bool false]) w := .trans (by kernel_rfl) rfl
theorem afj (v : Value) (w : World) (K : KV) : taT P (.iface T.ae v) T.aq T.s true w K = K (.tuple #[.agg #[.int .u64 0, .int .u64 0, .int .u64 0, .bool false, .int .u64 0, .int .u64 0, .int .i64 0, .bool false], .bool false]) w := .trans (by kernel_rfl) rfl
theorem bai (v : Value) (rx ry : Operand) (w : World) (K : KV) : fj P .eql T.aq rx ry (.iface T.ae v) .nilIface w K = K (.bool false) w := .trans (by kernel_rfl) rfl
theorem acn (v : Value) (w : World) (K : KV) : taT P (.iface T.w v) T.aq T.y true w K = K (.tuple #[.agg #[.int .u64 0, .bool false, .slice none 0 0], .bool false]) w := .trans (by kernel_rfl) rfl
theorem aai (v : Value) (w : World) (K : KV) : taT P (.iface T.w v) T.aq T.aa true w K = K (.tuple #[.agg #[.slice none 0 0], .bool false]) w := .trans (by kernel_rfl) rfl
theorem aad (v : Value) (w : World) (K : KV) : taT P (.iface T.w v) T.aq T.p true w K = K (.tuple #[.agg #[.int .u64 0, .int .u64 0, .int .u64 0, .int .i64 0], .bool false]) w := .trans (by kernel_rfl) rfl
theorem aci (v : Value) (w : World) (K : KV) : taT P (.iface T.w v) T.aq T.s true w K = K (.tuple #[.agg #[.int .u64 0, .int .u64 0, .int .u64 0, .bool false, .int .u64 0, .int .u64 0, .int .i64 0, .bool false], .bool false]) w := .trans (by kernel_rfl) rfl
theorem adn (v : Value) (w : World) (K : KV) : taT P (.iface T.w v) T.aq T.ae true w K = K (.tuple #[.agg #[.int .u64 0, .int .i64 0], .bool false]) w := .trans (by kernel_rfl) rfl
theorem aul (v : Value) (rx ry : Operand) (w : World) (K : KV) : fj P .eql T.aq rx ry (.iface T.w v) .nilIface w K = K (.bool false) w := .trans (by kernel_rfl) rfl
theorem aed (v : Value) (w : World) (K : KV) : taT P (.iface T.ab v) T.aq T.y true w K = K (.tuple #[.agg #[.int .u64 0, .bool false, .slice none 0 0], .bool false]) w := .trans (by kernel_rfl) rfl
theorem aca (v : Value) (w : World) (K : KV) : taT P (.iface T.ab v) T.aq T.aa true w K = K (.tuple #[.agg #[.slice none 0 0], .bool false]) w := .trans (by kernel_rfl) rfl
theorem abt (v : Value) (w : World) (K : KV) : taT P (.iface T.ab v) T.aq T.p true w K = K (.tuple #[.agg #[.int .u64 0, .int .u64 0, .int .u64 0, .int .i64 0], .bool false]) w := .trans (by kernel_rfl) rfl
theorem adk (v : Value) (w : World) (K : KV) : taT P (.iface T.ab v) T.aq T.s true w K = K (.tuple #[.agg #[.int .u64 0, .int .u64 0, .int .u64 0, .bool false, .int .u64 0, .int .u64 0, .int .i64 0, .bool false], .bool false]) w := .trans (by kernel_rfl) rfl
theorem afm (v : Value) (w : World) (K : KV) : taT P (.iface T.ab v) T.aq T.ae true w K = K (.tuple #[.agg #[.int .u64 0, .int .i64 0], .bool false]) w := .trans (by kernel_rfl) rfl
theorem ack (v : Value) (w : World) (K : KV) : taT P (.iface T.ab v) T.aq T.w true w K = K (.tuple #[.agg #[.int .u64 0, .int .u64 0, .int .u64 0, .slice none 0 0], .bool false]) w := .trans (by kernel_rfl) rfl
theorem ayv (v : Value) (rx ry : Operand) (w : World) (K : KV) : fj P .eql T.aq rx ry (.iface T.ab v) .nilIface w K = K (.bool false) w := .trans (by kernel_rfl) rfl
def aej (x : Int) : List Value := [.int .u8 x]
theorem jf (x : Int) : (aej x).length = 1 := rfl
theorem xr (x : Int) : ∀ u ∈ aej x, ju u = true := fun u hu => by simp [aej] at hu; subst hu; rfl
structure Mem where
 id : Int
 inc : Int
 st : Int
 deriving DecidableEq
def acd (m : Mem) : List Value := [.int .u64 m.id, .int .u64 m.inc, .int .i64 m.st]
theorem aro (m : Mem) : (acd m).length = 3 := rfl
theorem azv (m : Mem) : ∀ u ∈ acd m, ju u = true := fun u hu => by simp [acd] at hu; rcases hu with rfl | rfl | rfl <;> rfl
end Go.Proofs.YtfnhoaemapheoaaGreat
