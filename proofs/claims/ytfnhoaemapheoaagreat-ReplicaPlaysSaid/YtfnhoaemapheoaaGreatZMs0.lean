/-
  Things of package message: one type is not another. No condition.
-/
import Derived.Test.YtfnhoaemapheoaaGreatN
import Derived.Test.YtfnhoaemapheoaaGreatZEng
import Derived.Test.YtfnhoaemapheoaaGreatZEngSl
set_option maxRecDepth 100000
namespace Go.Proofs.YtfnhoaemapheoaaGreat
open Go.Eng
theorem apb (v : Value) (w : World) (K : KV) : taT P (.iface T.y v) T.aq T.p true w K = K (.tuple #[.agg #[.int .u64 0, .int .u64 0, .int .u64 0, .int .i64 0], .bool false]) w := .trans (by kernel_rfl) rfl
theorem aww (v : Value) (rx ry : Operand) (w : World) (K : KV) : fi P .eql T.aq rx ry (.iface T.y v) .nilIface w K = K (.bool false) w := .trans (by kernel_rfl) rfl
theorem als (v : Value) (w : World) (K : KV) : taT P (.iface T.aa v) T.aq T.p true w K = K (.tuple #[.agg #[.int .u64 0, .int .u64 0, .int .u64 0, .int .i64 0], .bool false]) w := .trans (by kernel_rfl) rfl
theorem arx (v : Value) (rx ry : Operand) (w : World) (K : KV) : fi P .eql T.aq rx ry (.iface T.aa v) .nilIface w K = K (.bool false) w := .trans (by kernel_rfl) rfl
theorem agq (v : Value) (w : World) (K : KV) : taT P (.iface T.p v) T.aq T.y true w K = K (.tuple #[.agg #[.int .u64 0, .bool false, .slice none 0 0], .bool false]) w := .trans (by kernel_rfl) rfl
theorem adn (v : Value) (w : World) (K : KV) : taT P (.iface T.p v) T.aq T.aa true w K = K (.tuple #[.agg #[.slice none 0 0], .bool false]) w := .trans (by kernel_rfl) rfl
theorem bdz (v : Value) (rx ry : Operand) (w : World) (K : KV) : fi P .eql T.aq rx ry (.iface T.p v) .nilIface w K = K (.bool false) w := .trans (by kernel_rfl) rfl
theorem adg (v : Value) (w : World) (K : KV) : taT P (.iface T.s v) T.aq T.y true w K = K (.tuple #[.agg #[.int .u64 0, .bool false, .slice none 0 0], .bool false]) w := .trans (by kernel_rfl) rfl
theorem abm (v : Value) (w : World) (K : KV) : taT P (.iface T.s v) T.aq T.aa true w K = K (.tuple #[.agg #[.slice none 0 0], .bool false]) w := .trans (by kernel_rfl) rfl
theorem abt (v : Value) (w : World) (K : KV) : taT P (.iface T.s v) T.aq T.p true w K = K (.tuple #[.agg #[.int .u64 0, .int .u64 0, .int .u64 0, .int .i64 0], .bool false]) w := .trans (by kernel_rfl) rfl
theorem axt (v : Value) (rx ry : Operand) (w : World) (K : KV) : fi P .eql T.aq rx ry (.iface T.s v) .nilIface w K = K (.bool false) w := .trans (by kernel_rfl) rfl
theorem afj (v : Value) (w : World) (K : KV) : taT P (.iface T.ae v) T.aq T.y true w K = K (.tuple #[.agg #[.int .u64 0, .bool false, .slice none 0 0], .bool false]) w := .trans (by kernel_rfl) rfl
theorem acl (v : Value) (w : World) (K : KV) : taT P (.iface T.ae v) T.aq T.aa true w K = K (.tuple #[.agg #[.slice none 0 0], .bool false]) w := .trans (by kernel_rfl) rfl
theorem ade (v : Value) (w : World) (K : KV) : taT P (.iface T.ae v) T.aq T.p true w K = K (.tuple #[.agg #[.int .u64 0, .int .u64 0, .int .u64 0, .int .i64 0], .bool false]) w := .trans (by kernel_rfl) rfl
theorem afk (v : Value) (w : World) (K : KV) : taT P (.iface T.ae v) T.aq T.s true w K = K (.tuple #[.agg #[.int .u64 0, .int .u64 0, .int .u64 0, .bool false, .int .u64 0, .int .u64 0, .int .i64 0, .bool false], .bool false]) w := .trans (by kernel_rfl) rfl
theorem bbx (v : Value) (rx ry : Operand) (w : World) (K : KV) : fi P .eql T.aq rx ry (.iface T.ae v) .nilIface w K = K (.bool false) w := .trans (by kernel_rfl) rfl
theorem acg (v : Value) (w : World) (K : KV) : taT P (.iface T.w v) T.aq T.y true w K = K (.tuple #[.agg #[.int .u64 0, .bool false, .slice none 0 0], .bool false]) w := .trans (by kernel_rfl) rfl
theorem aae (v : Value) (w : World) (K : KV) : taT P (.iface T.w v) T.aq T.aa true w K = K (.tuple #[.agg #[.slice none 0 0], .bool false]) w := .trans (by kernel_rfl) rfl
theorem aab (v : Value) (w : World) (K : KV) : taT P (.iface T.w v) T.aq T.p true w K = K (.tuple #[.agg #[.int .u64 0, .int .u64 0, .int .u64 0, .int .i64 0], .bool false]) w := .trans (by kernel_rfl) rfl
theorem ack (v : Value) (w : World) (K : KV) : taT P (.iface T.w v) T.aq T.s true w K = K (.tuple #[.agg #[.int .u64 0, .int .u64 0, .int .u64 0, .bool false, .int .u64 0, .int .u64 0, .int .i64 0, .bool false], .bool false]) w := .trans (by kernel_rfl) rfl
theorem aee (v : Value) (w : World) (K : KV) : taT P (.iface T.w v) T.aq T.ae true w K = K (.tuple #[.agg #[.int .u64 0, .int .i64 0], .bool false]) w := .trans (by kernel_rfl) rfl
theorem avn (v : Value) (rx ry : Operand) (w : World) (K : KV) : fi P .eql T.aq rx ry (.iface T.w v) .nilIface w K = K (.bool false) w := .trans (by kernel_rfl) rfl
theorem aea (v : Value) (w : World) (K : KV) : taT P (.iface T.ab v) T.aq T.y true w K = K (.tuple #[.agg #[.int .u64 0, .bool false, .slice none 0 0], .bool false]) w := .trans (by kernel_rfl) rfl
theorem abb (v : Value) (w : World) (K : KV) : taT P (.iface T.ab v) T.aq T.aa true w K = K (.tuple #[.agg #[.slice none 0 0], .bool false]) w := .trans (by kernel_rfl) rfl
theorem aca (v : Value) (w : World) (K : KV) : taT P (.iface T.ab v) T.aq T.p true w K = K (.tuple #[.agg #[.int .u64 0, .int .u64 0, .int .u64 0, .int .i64 0], .bool false]) w := .trans (by kernel_rfl) rfl
theorem ady (v : Value) (w : World) (K : KV) : taT P (.iface T.ab v) T.aq T.s true w K = K (.tuple #[.agg #[.int .u64 0, .int .u64 0, .int .u64 0, .bool false, .int .u64 0, .int .u64 0, .int .i64 0, .bool false], .bool false]) w := .trans (by kernel_rfl) rfl
theorem afo (v : Value) (w : World) (K : KV) : taT P (.iface T.ab v) T.aq T.ae true w K = K (.tuple #[.agg #[.int .u64 0, .int .i64 0], .bool false]) w := .trans (by kernel_rfl) rfl
theorem acq (v : Value) (w : World) (K : KV) : taT P (.iface T.ab v) T.aq T.w true w K = K (.tuple #[.agg #[.int .u64 0, .int .u64 0, .int .u64 0, .slice none 0 0], .bool false]) w := .trans (by kernel_rfl) rfl
theorem axg (v : Value) (rx ry : Operand) (w : World) (K : KV) : fi P .eql T.aq rx ry (.iface T.ab v) .nilIface w K = K (.bool false) w := .trans (by kernel_rfl) rfl
def aei (x : Int) : List Value := [.int .u8 x]
theorem je (x : Int) : (aei x).length = 1 := rfl
theorem xn (x : Int) : ∀ u ∈ aei x, jr u = true := fun u hu => by simp [aei] at hu; subst hu; rfl
structure Mem where
 id : Int
 inc : Int
 st : Int
 deriving DecidableEq
def abq (m : Mem) : List Value := [.int .u64 m.id, .int .u64 m.inc, .int .i64 m.st]
theorem apv (m : Mem) : (abq m).length = 3 := rfl
theorem bax (m : Mem) : ∀ u ∈ abq m, jr u = true := fun u hu => by simp [abq] at hu; rcases hu with rfl | rfl | rfl <;> rfl
end Go.Proofs.YtfnhoaemapheoaaGreat
