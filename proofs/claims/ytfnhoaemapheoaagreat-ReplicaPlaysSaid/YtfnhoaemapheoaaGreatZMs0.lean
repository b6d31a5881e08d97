/-
  Things of package message: one type is not another. No condition.
-/
import Derived.Test.YtfnhoaemapheoaaGreatN
import Derived.Test.YtfnhoaemapheoaaGreatZEng
import Derived.Test.YtfnhoaemapheoaaGreatZEngSl
set_option maxRecDepth 100000
namespace Go.Proofs.YtfnhoaemapheoaaGreat
open Go.Eng
theorem arl (v : Value) (w : World) (K : KV) : taT P (.iface T.y v) T.aq T.p true w K = K (.tuple #[.agg #[.int .u64 0, .int .u64 0, .int .u64 0, .int .i64 0], .bool false]) w := .trans (by kernel_rfl) rfl
theorem aym (v : Value) (rx ry : Operand) (w : World) (K : KV) : fi P .eql T.aq rx ry (.iface T.y v) .nilIface w K = K (.bool false) w := .trans (by kernel_rfl) rfl
theorem amd (v : Value) (w : World) (K : KV) : taT P (.iface T.aa v) T.aq T.p true w K = K (.tuple #[.agg #[.int .u64 0, .int .u64 0, .int .u64 0, .int .i64 0], .bool false]) w := .trans (by kernel_rfl) rfl
theorem asl (v : Value) (rx ry : Operand) (w : World) (K : KV) : fi P .eql T.aq rx ry (.iface T.aa v) .nilIface w K = K (.bool false) w := .trans (by kernel_rfl) rfl
theorem afs (v : Value) (w : World) (K : KV) : taT P (.iface T.p v) T.aq T.y true w K = K (.tuple #[.agg #[.int .u64 0, .bool false, .slice none 0 0], .bool false]) w := .trans (by kernel_rfl) rfl
theorem adw (v : Value) (w : World) (K : KV) : taT P (.iface T.p v) T.aq T.aa true w K = K (.tuple #[.agg #[.slice none 0 0], .bool false]) w := .trans (by kernel_rfl) rfl
theorem bfb (v : Value) (rx ry : Operand) (w : World) (K : KV) : fi P .eql T.aq rx ry (.iface T.p v) .nilIface w K = K (.bool false) w := .trans (by kernel_rfl) rfl
theorem ads (v : Value) (w : World) (K : KV) : taT P (.iface T.s v) T.aq T.y true w K = K (.tuple #[.agg #[.int .u64 0, .bool false, .slice none 0 0], .bool false]) w := .trans (by kernel_rfl) rfl
theorem acd (v : Value) (w : World) (K : KV) : taT P (.iface T.s v) T.aq T.aa true w K = K (.tuple #[.agg #[.slice none 0 0], .bool false]) w := .trans (by kernel_rfl) rfl
theorem abi (v : Value) (w : World) (K : KV) : taT P (.iface T.s v) T.aq T.p true w K = K (.tuple #[.agg #[.int .u64 0, .int .u64 0, .int .u64 0, .int .i64 0], .bool false]) w := .trans (by kernel_rfl) rfl
theorem ayg (v : Value) (rx ry : Operand) (w : World) (K : KV) : fi P .eql T.aq rx ry (.iface T.s v) .nilIface w K = K (.bool false) w := .trans (by kernel_rfl) rfl
theorem afi (v : Value) (w : World) (K : KV) : taT P (.iface T.ae v) T.aq T.y true w K = K (.tuple #[.agg #[.int .u64 0, .bool false, .slice none 0 0], .bool false]) w := .trans (by kernel_rfl) rfl
theorem acf (v : Value) (w : World) (K : KV) : taT P (.iface T.ae v) T.aq T.aa true w K = K (.tuple #[.agg #[.slice none 0 0], .bool false]) w := .trans (by kernel_rfl) rfl
theorem acv (v : Value) (w : World) (K : KV) : taT P (.iface T.ae v) T.aq T.p true w K = K (.tuple #[.agg #[.int .u64 0, .int .u64 0, .int .u64 0, .int .i64 0], .bool false]) w := .trans (by kernel_rfl) rfl
theorem afj (v : Value) (w : World) (K : KV) : taT P (.iface T.ae v) T.aq T.s true w K = K (.tuple #[.agg #[.int .u64 0, .int .u64 0, .int .u64 0, .bool false, .int .u64 0, .int .u64 0, .int .i64 0, .bool false], .bool false]) w := .trans (by kernel_rfl) rfl
theorem azr (v : Value) (rx ry : Operand) (w : World) (K : KV) : fi P .eql T.aq rx ry (.iface T.ae v) .nilIface w K = K (.bool false) w := .trans (by kernel_rfl) rfl
theorem ach (v : Value) (w : World) (K : KV) : taT P (.iface T.w v) T.aq T.y true w K = K (.tuple #[.agg #[.int .u64 0, .bool false, .slice none 0 0], .bool false]) w := .trans (by kernel_rfl) rfl
theorem aae (v : Value) (w : World) (K : KV) : taT P (.iface T.w v) T.aq T.aa true w K = K (.tuple #[.agg #[.slice none 0 0], .bool false]) w := .trans (by kernel_rfl) rfl
theorem aac (v : Value) (w : World) (K : KV) : taT P (.iface T.w v) T.aq T.p true w K = K (.tuple #[.agg #[.int .u64 0, .int .u64 0, .int .u64 0, .int .i64 0], .bool false]) w := .trans (by kernel_rfl) rfl
theorem acj (v : Value) (w : World) (K : KV) : taT P (.iface T.w v) T.aq T.s true w K = K (.tuple #[.agg #[.int .u64 0, .int .u64 0, .int .u64 0, .bool false, .int .u64 0, .int .u64 0, .int .i64 0, .bool false], .bool false]) w := .trans (by kernel_rfl) rfl
theorem aef (v : Value) (w : World) (K : KV) : taT P (.iface T.w v) T.aq T.ae true w K = K (.tuple #[.agg #[.int .u64 0, .int .i64 0], .bool false]) w := .trans (by kernel_rfl) rfl
theorem auv (v : Value) (rx ry : Operand) (w : World) (K : KV) : fi P .eql T.aq rx ry (.iface T.w v) .nilIface w K = K (.bool false) w := .trans (by kernel_rfl) rfl
theorem adr (v : Value) (w : World) (K : KV) : taT P (.iface T.ab v) T.aq T.y true w K = K (.tuple #[.agg #[.int .u64 0, .bool false, .slice none 0 0], .bool false]) w := .trans (by kernel_rfl) rfl
theorem abr (v : Value) (w : World) (K : KV) : taT P (.iface T.ab v) T.aq T.aa true w K = K (.tuple #[.agg #[.slice none 0 0], .bool false]) w := .trans (by kernel_rfl) rfl
theorem abp (v : Value) (w : World) (K : KV) : taT P (.iface T.ab v) T.aq T.p true w K = K (.tuple #[.agg #[.int .u64 0, .int .u64 0, .int .u64 0, .int .i64 0], .bool false]) w := .trans (by kernel_rfl) rfl
theorem adv (v : Value) (w : World) (K : KV) : taT P (.iface T.ab v) T.aq T.s true w K = K (.tuple #[.agg #[.int .u64 0, .int .u64 0, .int .u64 0, .bool false, .int .u64 0, .int .u64 0, .int .i64 0, .bool false], .bool false]) w := .trans (by kernel_rfl) rfl
theorem afo (v : Value) (w : World) (K : KV) : taT P (.iface T.ab v) T.aq T.ae true w K = K (.tuple #[.agg #[.int .u64 0, .int .i64 0], .bool false]) w := .trans (by kernel_rfl) rfl
theorem acg (v : Value) (w : World) (K : KV) : taT P (.iface T.ab v) T.aq T.w true w K = K (.tuple #[.agg #[.int .u64 0, .int .u64 0, .int .u64 0, .slice none 0 0], .bool false]) w := .trans (by kernel_rfl) rfl
theorem axw (v : Value) (rx ry : Operand) (w : World) (K : KV) : fi P .eql T.aq rx ry (.iface T.ab v) .nilIface w K = K (.bool false) w := .trans (by kernel_rfl) rfl
def aew (x : Int) : List Value := [.int .u8 x]
theorem je (x : Int) : (aew x).length = 1 := rfl
theorem xd (x : Int) : ∀ u ∈ aew x, jr u = true := fun u hu => by simp [aew] at hu; subst hu; rfl
structure Mem where
 id : Int
 inc : Int
 st : Int
 deriving DecidableEq
def abe (m : Mem) : List Value := [.int .u64 m.id, .int .u64 m.inc, .int .i64 m.st]
theorem aqm (m : Mem) : (abe m).length = 3 := rfl
theorem bbw (m : Mem) : ∀ u ∈ abe m, jr u = true := fun u hu => by simp [abe] at hu; rcases hu with rfl | rfl | rfl <;> rfl
end Go.Proofs.YtfnhoaemapheoaaGreat
