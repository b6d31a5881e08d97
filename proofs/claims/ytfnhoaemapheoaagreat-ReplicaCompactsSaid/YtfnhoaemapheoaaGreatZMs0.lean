/-
  Things of package message: one type is not another. No condition.
-/
import Derived.Test.YtfnhoaemapheoaaGreatN
import Derived.Test.YtfnhoaemapheoaaGreatZEng
import Derived.Test.YtfnhoaemapheoaaGreatZEngSl
set_option maxRecDepth 100000
namespace Go.Proofs.YtfnhoaemapheoaaGreat
open Go.Eng
theorem aoe (v : Value) (w : World) (K : KV) : taT P (.iface T.s v) T.ao T.k true w K = K (.tuple #[.agg #[.int .u64 0, .int .u64 0, .int .u64 0, .int .i64 0], .bool false]) w := .trans (by kernel_rfl) rfl
theorem avl (v : Value) (rx ry : Operand) (w : World) (K : KV) : fc P .eql T.ao rx ry (.iface T.s v) .nilIface w K = K (.bool false) w := .trans (by kernel_rfl) rfl
theorem ajs (v : Value) (w : World) (K : KV) : taT P (.iface T.u v) T.ao T.k true w K = K (.tuple #[.agg #[.int .u64 0, .int .u64 0, .int .u64 0, .int .i64 0], .bool false]) w := .trans (by kernel_rfl) rfl
theorem apw (v : Value) (rx ry : Operand) (w : World) (K : KV) : fc P .eql T.ao rx ry (.iface T.u v) .nilIface w K = K (.bool false) w := .trans (by kernel_rfl) rfl
theorem aew (v : Value) (w : World) (K : KV) : taT P (.iface T.k v) T.ao T.s true w K = K (.tuple #[.agg #[.int .u64 0, .bool false, .slice none 0 0], .bool false]) w := .trans (by kernel_rfl) rfl
theorem acf (v : Value) (w : World) (K : KV) : taT P (.iface T.k v) T.ao T.u true w K = K (.tuple #[.agg #[.slice none 0 0], .bool false]) w := .trans (by kernel_rfl) rfl
theorem bak (v : Value) (rx ry : Operand) (w : World) (K : KV) : fc P .eql T.ao rx ry (.iface T.k v) .nilIface w K = K (.bool false) w := .trans (by kernel_rfl) rfl
theorem acm (v : Value) (w : World) (K : KV) : taT P (.iface T.n v) T.ao T.s true w K = K (.tuple #[.agg #[.int .u64 0, .bool false, .slice none 0 0], .bool false]) w := .trans (by kernel_rfl) rfl
theorem aac (v : Value) (w : World) (K : KV) : taT P (.iface T.n v) T.ao T.u true w K = K (.tuple #[.agg #[.slice none 0 0], .bool false]) w := .trans (by kernel_rfl) rfl
theorem zq (v : Value) (w : World) (K : KV) : taT P (.iface T.n v) T.ao T.k true w K = K (.tuple #[.agg #[.int .u64 0, .int .u64 0, .int .u64 0, .int .i64 0], .bool false]) w := .trans (by kernel_rfl) rfl
theorem atv (v : Value) (rx ry : Operand) (w : World) (K : KV) : fc P .eql T.ao rx ry (.iface T.n v) .nilIface w K = K (.bool false) w := .trans (by kernel_rfl) rfl
theorem ads (v : Value) (w : World) (K : KV) : taT P (.iface T.aa v) T.ao T.s true w K = K (.tuple #[.agg #[.int .u64 0, .bool false, .slice none 0 0], .bool false]) w := .trans (by kernel_rfl) rfl
theorem aau (v : Value) (w : World) (K : KV) : taT P (.iface T.aa v) T.ao T.u true w K = K (.tuple #[.agg #[.slice none 0 0], .bool false]) w := .trans (by kernel_rfl) rfl
theorem abm (v : Value) (w : World) (K : KV) : taT P (.iface T.aa v) T.ao T.k true w K = K (.tuple #[.agg #[.int .u64 0, .int .u64 0, .int .u64 0, .int .i64 0], .bool false]) w := .trans (by kernel_rfl) rfl
theorem adz (v : Value) (w : World) (K : KV) : taT P (.iface T.aa v) T.ao T.n true w K = K (.tuple #[.agg #[.int .u64 0, .int .u64 0, .int .u64 0, .bool false, .int .u64 0, .int .u64 0, .int .i64 0, .bool false], .bool false]) w := .trans (by kernel_rfl) rfl
theorem axj (v : Value) (rx ry : Operand) (w : World) (K : KV) : fc P .eql T.ao rx ry (.iface T.aa v) .nilIface w K = K (.bool false) w := .trans (by kernel_rfl) rfl
theorem aay (v : Value) (w : World) (K : KV) : taT P (.iface T.q v) T.ao T.s true w K = K (.tuple #[.agg #[.int .u64 0, .bool false, .slice none 0 0], .bool false]) w := .trans (by kernel_rfl) rfl
theorem yp (v : Value) (w : World) (K : KV) : taT P (.iface T.q v) T.ao T.u true w K = K (.tuple #[.agg #[.slice none 0 0], .bool false]) w := .trans (by kernel_rfl) rfl
theorem yn (v : Value) (w : World) (K : KV) : taT P (.iface T.q v) T.ao T.k true w K = K (.tuple #[.agg #[.int .u64 0, .int .u64 0, .int .u64 0, .int .i64 0], .bool false]) w := .trans (by kernel_rfl) rfl
theorem abe (v : Value) (w : World) (K : KV) : taT P (.iface T.q v) T.ao T.n true w K = K (.tuple #[.agg #[.int .u64 0, .int .u64 0, .int .u64 0, .bool false, .int .u64 0, .int .u64 0, .int .i64 0, .bool false], .bool false]) w := .trans (by kernel_rfl) rfl
theorem abx (v : Value) (w : World) (K : KV) : taT P (.iface T.q v) T.ao T.aa true w K = K (.tuple #[.agg #[.int .u64 0, .int .i64 0], .bool false]) w := .trans (by kernel_rfl) rfl
theorem asu (v : Value) (rx ry : Operand) (w : World) (K : KV) : fc P .eql T.ao rx ry (.iface T.q v) .nilIface w K = K (.bool false) w := .trans (by kernel_rfl) rfl
theorem acp (v : Value) (w : World) (K : KV) : taT P (.iface T.w v) T.ao T.s true w K = K (.tuple #[.agg #[.int .u64 0, .bool false, .slice none 0 0], .bool false]) w := .trans (by kernel_rfl) rfl
theorem aak (v : Value) (w : World) (K : KV) : taT P (.iface T.w v) T.ao T.u true w K = K (.tuple #[.agg #[.slice none 0 0], .bool false]) w := .trans (by kernel_rfl) rfl
theorem zy (v : Value) (w : World) (K : KV) : taT P (.iface T.w v) T.ao T.k true w K = K (.tuple #[.agg #[.int .u64 0, .int .u64 0, .int .u64 0, .int .i64 0], .bool false]) w := .trans (by kernel_rfl) rfl
theorem act (v : Value) (w : World) (K : KV) : taT P (.iface T.w v) T.ao T.n true w K = K (.tuple #[.agg #[.int .u64 0, .int .u64 0, .int .u64 0, .bool false, .int .u64 0, .int .u64 0, .int .i64 0, .bool false], .bool false]) w := .trans (by kernel_rfl) rfl
theorem adx (v : Value) (w : World) (K : KV) : taT P (.iface T.w v) T.ao T.aa true w K = K (.tuple #[.agg #[.int .u64 0, .int .i64 0], .bool false]) w := .trans (by kernel_rfl) rfl
theorem aat (v : Value) (w : World) (K : KV) : taT P (.iface T.w v) T.ao T.q true w K = K (.tuple #[.agg #[.int .u64 0, .int .u64 0, .int .u64 0, .slice none 0 0], .bool false]) w := .trans (by kernel_rfl) rfl
theorem auo (v : Value) (rx ry : Operand) (w : World) (K : KV) : fc P .eql T.ao rx ry (.iface T.w v) .nilIface w K = K (.bool false) w := .trans (by kernel_rfl) rfl
def acz (x : Int) : List Value := [.int .u8 x]
theorem ij (x : Int) : (acz x).length = 1 := rfl
theorem vm (x : Int) : ∀ u ∈ acz x, jt u = true := fun u hu => by simp [acz] at hu; subst hu; rfl
structure Mem where
 id : Int
 inc : Int
 st : Int
 deriving DecidableEq
def abo (m : Mem) : List Value := [.int .u64 m.id, .int .u64 m.inc, .int .i64 m.st]
theorem ang (m : Mem) : (abo m).length = 3 := rfl
theorem axc (m : Mem) : ∀ u ∈ abo m, jt u = true := fun u hu => by simp [abo] at hu; rcases hu with rfl | rfl | rfl <;> rfl
end Go.Proofs.YtfnhoaemapheoaaGreat
