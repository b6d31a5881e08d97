/-
  Things of package message: one type is not another. No condition.
-/
import Derived.Test.YtfnhoaemapheoaaGreatN
import Derived.Test.YtfnhoaemapheoaaGreatZEng
import Derived.Test.YtfnhoaemapheoaaGreatZEngSl
set_option maxRecDepth 100000
namespace Go.Proofs.YtfnhoaemapheoaaGreat
open Go.Eng
theorem aoo (v : Value) (w : World) (K : KV) : taT P (.iface T.y v) T.aq T.p true w K = K (.tuple #[.agg #[.int .u64 0, .int .u64 0, .int .u64 0, .int .i64 0], .bool false]) w := .trans (by kernel_rfl) rfl
theorem axe (v : Value) (rx ry : Operand) (w : World) (K : KV) : fj P .eql T.aq rx ry (.iface T.y v) .nilIface w K = K (.bool false) w := .trans (by kernel_rfl) rfl
theorem aln (v : Value) (w : World) (K : KV) : taT P (.iface T.aa v) T.aq T.p true w K = K (.tuple #[.agg #[.int .u64 0, .int .u64 0, .int .u64 0, .int .i64 0], .bool false]) w := .trans (by kernel_rfl) rfl
theorem arw (v : Value) (rx ry : Operand) (w : World) (K : KV) : fj P .eql T.aq rx ry (.iface T.aa v) .nilIface w K = K (.bool false) w := .trans (by kernel_rfl) rfl
theorem agz (v : Value) (w : World) (K : KV) : taT P (.iface T.p v) T.aq T.y true w K = K (.tuple #[.agg #[.int .u64 0, .bool false, .slice none 0 0], .bool false]) w := .trans (by kernel_rfl) rfl
theorem aea (v : Value) (w : World) (K : KV) : taT P (.iface T.p v) T.aq T.aa true w K = K (.tuple #[.agg #[.slice none 0 0], .bool false]) w := .trans (by kernel_rfl) rfl
theorem bez (v : Value) (rx ry : Operand) (w : World) (K : KV) : fj P .eql T.aq rx ry (.iface T.p v) .nilIface w K = K (.bool false) w := .trans (by kernel_rfl) rfl
theorem adj (v : Value) (w : World) (K : KV) : taT P (.iface T.s v) T.aq T.y true w K = K (.tuple #[.agg #[.int .u64 0, .bool false, .slice none 0 0], .bool false]) w := .trans (by kernel_rfl) rfl
theorem abj (v : Value) (w : World) (K : KV) : taT P (.iface T.s v) T.aq T.aa true w K = K (.tuple #[.agg #[.slice none 0 0], .bool false]) w := .trans (by kernel_rfl) rfl
theorem abl (v : Value) (w : World) (K : KV) : taT P (.iface T.s v) T.aq T.p true w K = K (.tuple #[.agg #[.int .u64 0, .int .u64 0, .int .u64 0, .int .i64 0], .bool false]) w := .trans (by kernel_rfl) rfl
theorem axj (v : Value) (rx ry : Operand) (w : World) (K : KV) : fj P .eql T.aq rx ry (.iface T.s v) .nilIface w K = K (.bool false) w := .trans (by kernel_rfl) rfl
theorem afd (v : Value) (w : World) (K : KV) : taT P (.iface T.ae v) T.aq T.y true w K = K (.tuple #[.agg #[.int .u64 0, .bool false, .slice none 0 0], .bool false]) w := .trans (by kernel_rfl) rfl
theorem acj (v : Value) (w : World) (K : KV) : taT P (.iface T.ae v) T.aq T.aa true w K = K (.tuple #[.agg #[.slice none 0 0], .bool false]) w := .trans (by kernel_rfl) rfl
theorem adg (v : Value) (w : World) (K : KV) : taT P (.iface T.ae v) T.aq T.p true w K = K (.tuple #[.agg #[.int .u64 0, .int .u64 0, .int .u64 0, .int .i64 0], .bool false]) w := .trans (by kernel_rfl) rfl
theorem afh (v : Value) (w : World) (K : KV) : taT P (.iface T.ae v) T.aq T.s true w K = K (.tuple #[.agg #[.int .u64 0, .int .u64 0, .int .u64 0, .bool false, .int .u64 0, .int .u64 0, .int .i64 0, .bool false], .bool false]) w := .trans (by kernel_rfl) rfl
theorem azx (v : Value) (rx ry : Operand) (w : World) (K : KV) : fj P .eql T.aq rx ry (.iface T.ae v) .nilIface w K = K (.bool false) w := .trans (by kernel_rfl) rfl
theorem acq (v : Value) (w : World) (K : KV) : taT P (.iface T.w v) T.aq T.y true w K = K (.tuple #[.agg #[.int .u64 0, .bool false, .slice none 0 0], .bool false]) w := .trans (by kernel_rfl) rfl
theorem aai (v : Value) (w : World) (K : KV) : taT P (.iface T.w v) T.aq T.aa true w K = K (.tuple #[.agg #[.slice none 0 0], .bool false]) w := .trans (by kernel_rfl) rfl
theorem aah (v : Value) (w : World) (K : KV) : taT P (.iface T.w v) T.aq T.p true w K = K (.tuple #[.agg #[.int .u64 0, .int .u64 0, .int .u64 0, .int .i64 0], .bool false]) w := .trans (by kernel_rfl) rfl
theorem acp (v : Value) (w : World) (K : KV) : taT P (.iface T.w v) T.aq T.s true w K = K (.tuple #[.agg #[.int .u64 0, .int .u64 0, .int .u64 0, .bool false, .int .u64 0, .int .u64 0, .int .i64 0, .bool false], .bool false]) w := .trans (by kernel_rfl) rfl
theorem adm (v : Value) (w : World) (K : KV) : taT P (.iface T.w v) T.aq T.ae true w K = K (.tuple #[.agg #[.int .u64 0, .int .i64 0], .bool false]) w := .trans (by kernel_rfl) rfl
theorem avr (v : Value) (rx ry : Operand) (w : World) (K : KV) : fj P .eql T.aq rx ry (.iface T.w v) .nilIface w K = K (.bool false) w := .trans (by kernel_rfl) rfl
theorem adk (v : Value) (w : World) (K : KV) : taT P (.iface T.ab v) T.aq T.y true w K = K (.tuple #[.agg #[.int .u64 0, .bool false, .slice none 0 0], .bool false]) w := .trans (by kernel_rfl) rfl
theorem abp (v : Value) (w : World) (K : KV) : taT P (.iface T.ab v) T.aq T.aa true w K = K (.tuple #[.agg #[.slice none 0 0], .bool false]) w := .trans (by kernel_rfl) rfl
theorem acb (v : Value) (w : World) (K : KV) : taT P (.iface T.ab v) T.aq T.p true w K = K (.tuple #[.agg #[.int .u64 0, .int .u64 0, .int .u64 0, .int .i64 0], .bool false]) w := .trans (by kernel_rfl) rfl
theorem adt (v : Value) (w : World) (K : KV) : taT P (.iface T.ab v) T.aq T.s true w K = K (.tuple #[.agg #[.int .u64 0, .int .u64 0, .int .u64 0, .bool false, .int .u64 0, .int .u64 0, .int .i64 0, .bool false], .bool false]) w := .trans (by kernel_rfl) rfl
theorem aff (v : Value) (w : World) (K : KV) : taT P (.iface T.ab v) T.aq T.ae true w K = K (.tuple #[.agg #[.int .u64 0, .int .i64 0], .bool false]) w := .trans (by kernel_rfl) rfl
theorem acm (v : Value) (w : World) (K : KV) : taT P (.iface T.ab v) T.aq T.w true w K = K (.tuple #[.agg #[.int .u64 0, .int .u64 0, .int .u64 0, .slice none 0 0], .bool false]) w := .trans (by kernel_rfl) rfl
theorem awp (v : Value) (rx ry : Operand) (w : World) (K : KV) : fj P .eql T.aq rx ry (.iface T.ab v) .nilIface w K = K (.bool false) w := .trans (by kernel_rfl) rfl
def ael (x : Int) : List Value := [.int .u8 x]
theorem je (x : Int) : (ael x).length = 1 := rfl
theorem xq (x : Int) : ∀ u ∈ ael x, ju u = true := fun u hu => by simp [ael] at hu; subst hu; rfl
structure Mem where
 id : Int
 inc : Int
 st : Int
 deriving DecidableEq
def acd (m : Mem) : List Value := [.int .u64 m.id, .int .u64 m.inc, .int .i64 m.st]
theorem aqg (m : Mem) : (acd m).length = 3 := rfl
theorem bau (m : Mem) : ∀ u ∈ acd m, ju u = true := fun u hu => by simp [acd] at hu; rcases hu with rfl | rfl | rfl <;> rfl
end Go.Proofs.YtfnhoaemapheoaaGreat
