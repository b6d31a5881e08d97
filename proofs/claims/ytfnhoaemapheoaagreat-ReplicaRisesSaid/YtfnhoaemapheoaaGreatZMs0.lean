/-
  Things of package message: one type is not another. No condition.
-/
import Derived.Test.YtfnhoaemapheoaaGreatN
import Derived.Test.YtfnhoaemapheoaaGreatZEng
import Derived.Test.YtfnhoaemapheoaaGreatZEngSl
set_option maxRecDepth 100000
namespace Go.Proofs.YtfnhoaemapheoaaGreat
open Go.Eng
theorem anq (v : Value) (w : World) (K : KV) : taT P (.iface T.s v) T.ao T.k true w K = K (.tuple #[.agg #[.int .u64 0, .int .u64 0, .int .u64 0, .int .i64 0], .bool false]) w := .trans (by kernel_rfl) rfl
theorem avx (v : Value) (rx ry : Operand) (w : World) (K : KV) : fe P .eql T.ao rx ry (.iface T.s v) .nilIface w K = K (.bool false) w := .trans (by kernel_rfl) rfl
theorem ajy (v : Value) (w : World) (K : KV) : taT P (.iface T.u v) T.ao T.k true w K = K (.tuple #[.agg #[.int .u64 0, .int .u64 0, .int .u64 0, .int .i64 0], .bool false]) w := .trans (by kernel_rfl) rfl
theorem apu (v : Value) (rx ry : Operand) (w : World) (K : KV) : fe P .eql T.ao rx ry (.iface T.u v) .nilIface w K = K (.bool false) w := .trans (by kernel_rfl) rfl
theorem aew (v : Value) (w : World) (K : KV) : taT P (.iface T.k v) T.ao T.s true w K = K (.tuple #[.agg #[.int .u64 0, .bool false, .slice none 0 0], .bool false]) w := .trans (by kernel_rfl) rfl
theorem acl (v : Value) (w : World) (K : KV) : taT P (.iface T.k v) T.ao T.u true w K = K (.tuple #[.agg #[.slice none 0 0], .bool false]) w := .trans (by kernel_rfl) rfl
theorem baz (v : Value) (rx ry : Operand) (w : World) (K : KV) : fe P .eql T.ao rx ry (.iface T.k v) .nilIface w K = K (.bool false) w := .trans (by kernel_rfl) rfl
theorem acu (v : Value) (w : World) (K : KV) : taT P (.iface T.n v) T.ao T.s true w K = K (.tuple #[.agg #[.int .u64 0, .bool false, .slice none 0 0], .bool false]) w := .trans (by kernel_rfl) rfl
theorem zq (v : Value) (w : World) (K : KV) : taT P (.iface T.n v) T.ao T.u true w K = K (.tuple #[.agg #[.slice none 0 0], .bool false]) w := .trans (by kernel_rfl) rfl
theorem aaa (v : Value) (w : World) (K : KV) : taT P (.iface T.n v) T.ao T.k true w K = K (.tuple #[.agg #[.int .u64 0, .int .u64 0, .int .u64 0, .int .i64 0], .bool false]) w := .trans (by kernel_rfl) rfl
theorem aus (v : Value) (rx ry : Operand) (w : World) (K : KV) : fe P .eql T.ao rx ry (.iface T.n v) .nilIface w K = K (.bool false) w := .trans (by kernel_rfl) rfl
theorem adv (v : Value) (w : World) (K : KV) : taT P (.iface T.ab v) T.ao T.s true w K = K (.tuple #[.agg #[.int .u64 0, .bool false, .slice none 0 0], .bool false]) w := .trans (by kernel_rfl) rfl
theorem aay (v : Value) (w : World) (K : KV) : taT P (.iface T.ab v) T.ao T.u true w K = K (.tuple #[.agg #[.slice none 0 0], .bool false]) w := .trans (by kernel_rfl) rfl
theorem abv (v : Value) (w : World) (K : KV) : taT P (.iface T.ab v) T.ao T.k true w K = K (.tuple #[.agg #[.int .u64 0, .int .u64 0, .int .u64 0, .int .i64 0], .bool false]) w := .trans (by kernel_rfl) rfl
theorem adz (v : Value) (w : World) (K : KV) : taT P (.iface T.ab v) T.ao T.n true w K = K (.tuple #[.agg #[.int .u64 0, .int .u64 0, .int .u64 0, .bool false, .int .u64 0, .int .u64 0, .int .i64 0, .bool false], .bool false]) w := .trans (by kernel_rfl) rfl
theorem ayc (v : Value) (rx ry : Operand) (w : World) (K : KV) : fe P .eql T.ao rx ry (.iface T.ab v) .nilIface w K = K (.bool false) w := .trans (by kernel_rfl) rfl
theorem abg (v : Value) (w : World) (K : KV) : taT P (.iface T.r v) T.ao T.s true w K = K (.tuple #[.agg #[.int .u64 0, .bool false, .slice none 0 0], .bool false]) w := .trans (by kernel_rfl) rfl
theorem yv (v : Value) (w : World) (K : KV) : taT P (.iface T.r v) T.ao T.u true w K = K (.tuple #[.agg #[.slice none 0 0], .bool false]) w := .trans (by kernel_rfl) rfl
theorem yt (v : Value) (w : World) (K : KV) : taT P (.iface T.r v) T.ao T.k true w K = K (.tuple #[.agg #[.int .u64 0, .int .u64 0, .int .u64 0, .int .i64 0], .bool false]) w := .trans (by kernel_rfl) rfl
theorem abd (v : Value) (w : World) (K : KV) : taT P (.iface T.r v) T.ao T.n true w K = K (.tuple #[.agg #[.int .u64 0, .int .u64 0, .int .u64 0, .bool false, .int .u64 0, .int .u64 0, .int .i64 0, .bool false], .bool false]) w := .trans (by kernel_rfl) rfl
theorem acw (v : Value) (w : World) (K : KV) : taT P (.iface T.r v) T.ao T.ab true w K = K (.tuple #[.agg #[.int .u64 0, .int .i64 0], .bool false]) w := .trans (by kernel_rfl) rfl
theorem asj (v : Value) (rx ry : Operand) (w : World) (K : KV) : fe P .eql T.ao rx ry (.iface T.r v) .nilIface w K = K (.bool false) w := .trans (by kernel_rfl) rfl
theorem acm (v : Value) (w : World) (K : KV) : taT P (.iface T.x v) T.ao T.s true w K = K (.tuple #[.agg #[.int .u64 0, .bool false, .slice none 0 0], .bool false]) w := .trans (by kernel_rfl) rfl
theorem aat (v : Value) (w : World) (K : KV) : taT P (.iface T.x v) T.ao T.u true w K = K (.tuple #[.agg #[.slice none 0 0], .bool false]) w := .trans (by kernel_rfl) rfl
theorem aak (v : Value) (w : World) (K : KV) : taT P (.iface T.x v) T.ao T.k true w K = K (.tuple #[.agg #[.int .u64 0, .int .u64 0, .int .u64 0, .int .i64 0], .bool false]) w := .trans (by kernel_rfl) rfl
theorem acj (v : Value) (w : World) (K : KV) : taT P (.iface T.x v) T.ao T.n true w K = K (.tuple #[.agg #[.int .u64 0, .int .u64 0, .int .u64 0, .bool false, .int .u64 0, .int .u64 0, .int .i64 0, .bool false], .bool false]) w := .trans (by kernel_rfl) rfl
theorem ady (v : Value) (w : World) (K : KV) : taT P (.iface T.x v) T.ao T.ab true w K = K (.tuple #[.agg #[.int .u64 0, .int .i64 0], .bool false]) w := .trans (by kernel_rfl) rfl
theorem aax (v : Value) (w : World) (K : KV) : taT P (.iface T.x v) T.ao T.r true w K = K (.tuple #[.agg #[.int .u64 0, .int .u64 0, .int .u64 0, .slice none 0 0], .bool false]) w := .trans (by kernel_rfl) rfl
theorem avg (v : Value) (rx ry : Operand) (w : World) (K : KV) : fe P .eql T.ao rx ry (.iface T.x v) .nilIface w K = K (.bool false) w := .trans (by kernel_rfl) rfl
def ade (x : Int) : List Value := [.int .u8 x]
theorem ip (x : Int) : (ade x).length = 1 := rfl
theorem vx (x : Int) : ∀ u ∈ ade x, jn u = true := fun u hu => by simp [ade] at hu; subst hu; rfl
structure Mem where
 id : Int
 inc : Int
 st : Int
 deriving DecidableEq
def abp (m : Mem) : List Value := [.int .u64 m.id, .int .u64 m.inc, .int .i64 m.st]
theorem apb (m : Mem) : (abp m).length = 3 := rfl
theorem axx (m : Mem) : ∀ u ∈ abp m, jn u = true := fun u hu => by simp [abp] at hu; rcases hu with rfl | rfl | rfl <;> rfl
end Go.Proofs.YtfnhoaemapheoaaGreat
