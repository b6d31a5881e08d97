/-
  Things of package message: one type is not another. No condition.
-/
import Derived.Test.YtfnhoaemapheoaaGreatN
import Derived.Test.YtfnhoaemapheoaaGreatZEng
import Derived.Test.YtfnhoaemapheoaaGreatZEngSl
set_option maxRecDepth 100000
namespace Go.Proofs.YtfnhoaemapheoaaGreat
open Go.Eng
theorem apo (v : Value) (w : World) (K : KV) : taT P (.iface T.s v) T.an T.j true w K = K (.tuple #[.agg #[.int .u64 0, .int .u64 0, .int .u64 0, .int .i64 0], .bool false]) w := .trans (by kernel_rfl) rfl
theorem aup (v : Value) (rx ry : Operand) (w : World) (K : KV) : en P .eql T.an rx ry (.iface T.s v) .nilIface w K = K (.bool false) w := .trans (by kernel_rfl) rfl
theorem akf (v : Value) (w : World) (K : KV) : taT P (.iface T.t v) T.an T.j true w K = K (.tuple #[.agg #[.int .u64 0, .int .u64 0, .int .u64 0, .int .i64 0], .bool false]) w := .trans (by kernel_rfl) rfl
theorem aqp (v : Value) (rx ry : Operand) (w : World) (K : KV) : en P .eql T.an rx ry (.iface T.t v) .nilIface w K = K (.bool false) w := .trans (by kernel_rfl) rfl
theorem afl (v : Value) (w : World) (K : KV) : taT P (.iface T.j v) T.an T.s true w K = K (.tuple #[.agg #[.int .u64 0, .bool false, .slice none 0 0], .bool false]) w := .trans (by kernel_rfl) rfl
theorem adg (v : Value) (w : World) (K : KV) : taT P (.iface T.j v) T.an T.t true w K = K (.tuple #[.agg #[.slice none 0 0], .bool false]) w := .trans (by kernel_rfl) rfl
theorem bdg (v : Value) (rx ry : Operand) (w : World) (K : KV) : en P .eql T.an rx ry (.iface T.j v) .nilIface w K = K (.bool false) w := .trans (by kernel_rfl) rfl
theorem adj (v : Value) (w : World) (K : KV) : taT P (.iface T.n v) T.an T.s true w K = K (.tuple #[.agg #[.int .u64 0, .bool false, .slice none 0 0], .bool false]) w := .trans (by kernel_rfl) rfl
theorem abb (v : Value) (w : World) (K : KV) : taT P (.iface T.n v) T.an T.t true w K = K (.tuple #[.agg #[.slice none 0 0], .bool false]) w := .trans (by kernel_rfl) rfl
theorem aap (v : Value) (w : World) (K : KV) : taT P (.iface T.n v) T.an T.j true w K = K (.tuple #[.agg #[.int .u64 0, .int .u64 0, .int .u64 0, .int .i64 0], .bool false]) w := .trans (by kernel_rfl) rfl
theorem awl (v : Value) (rx ry : Operand) (w : World) (K : KV) : en P .eql T.an rx ry (.iface T.n v) .nilIface w K = K (.bool false) w := .trans (by kernel_rfl) rfl
theorem aej (v : Value) (w : World) (K : KV) : taT P (.iface T.y v) T.an T.s true w K = K (.tuple #[.agg #[.int .u64 0, .bool false, .slice none 0 0], .bool false]) w := .trans (by kernel_rfl) rfl
theorem abp (v : Value) (w : World) (K : KV) : taT P (.iface T.y v) T.an T.t true w K = K (.tuple #[.agg #[.slice none 0 0], .bool false]) w := .trans (by kernel_rfl) rfl
theorem acb (v : Value) (w : World) (K : KV) : taT P (.iface T.y v) T.an T.j true w K = K (.tuple #[.agg #[.int .u64 0, .int .u64 0, .int .u64 0, .int .i64 0], .bool false]) w := .trans (by kernel_rfl) rfl
theorem ael (v : Value) (w : World) (K : KV) : taT P (.iface T.y v) T.an T.n true w K = K (.tuple #[.agg #[.int .u64 0, .int .u64 0, .int .u64 0, .bool false, .int .u64 0, .int .u64 0, .int .i64 0, .bool false], .bool false]) w := .trans (by kernel_rfl) rfl
theorem axs (v : Value) (rx ry : Operand) (w : World) (K : KV) : en P .eql T.an rx ry (.iface T.y v) .nilIface w K = K (.bool false) w := .trans (by kernel_rfl) rfl
theorem abj (v : Value) (w : World) (K : KV) : taT P (.iface T.r v) T.an T.s true w K = K (.tuple #[.agg #[.int .u64 0, .bool false, .slice none 0 0], .bool false]) w := .trans (by kernel_rfl) rfl
theorem zh (v : Value) (w : World) (K : KV) : taT P (.iface T.r v) T.an T.t true w K = K (.tuple #[.agg #[.slice none 0 0], .bool false]) w := .trans (by kernel_rfl) rfl
theorem yy (v : Value) (w : World) (K : KV) : taT P (.iface T.r v) T.an T.j true w K = K (.tuple #[.agg #[.int .u64 0, .int .u64 0, .int .u64 0, .int .i64 0], .bool false]) w := .trans (by kernel_rfl) rfl
theorem abl (v : Value) (w : World) (K : KV) : taT P (.iface T.r v) T.an T.n true w K = K (.tuple #[.agg #[.int .u64 0, .int .u64 0, .int .u64 0, .bool false, .int .u64 0, .int .u64 0, .int .i64 0, .bool false], .bool false]) w := .trans (by kernel_rfl) rfl
theorem acv (v : Value) (w : World) (K : KV) : taT P (.iface T.r v) T.an T.y true w K = K (.tuple #[.agg #[.int .u64 0, .int .i64 0], .bool false]) w := .trans (by kernel_rfl) rfl
theorem aty (v : Value) (rx ry : Operand) (w : World) (K : KV) : en P .eql T.an rx ry (.iface T.r v) .nilIface w K = K (.bool false) w := .trans (by kernel_rfl) rfl
theorem adc (v : Value) (w : World) (K : KV) : taT P (.iface T.v v) T.an T.s true w K = K (.tuple #[.agg #[.int .u64 0, .bool false, .slice none 0 0], .bool false]) w := .trans (by kernel_rfl) rfl
theorem aad (v : Value) (w : World) (K : KV) : taT P (.iface T.v v) T.an T.t true w K = K (.tuple #[.agg #[.slice none 0 0], .bool false]) w := .trans (by kernel_rfl) rfl
theorem aav (v : Value) (w : World) (K : KV) : taT P (.iface T.v v) T.an T.j true w K = K (.tuple #[.agg #[.int .u64 0, .int .u64 0, .int .u64 0, .int .i64 0], .bool false]) w := .trans (by kernel_rfl) rfl
theorem acx (v : Value) (w : World) (K : KV) : taT P (.iface T.v v) T.an T.n true w K = K (.tuple #[.agg #[.int .u64 0, .int .u64 0, .int .u64 0, .bool false, .int .u64 0, .int .u64 0, .int .i64 0, .bool false], .bool false]) w := .trans (by kernel_rfl) rfl
theorem aeo (v : Value) (w : World) (K : KV) : taT P (.iface T.v v) T.an T.y true w K = K (.tuple #[.agg #[.int .u64 0, .int .i64 0], .bool false]) w := .trans (by kernel_rfl) rfl
theorem abk (v : Value) (w : World) (K : KV) : taT P (.iface T.v v) T.an T.r true w K = K (.tuple #[.agg #[.int .u64 0, .int .u64 0, .int .u64 0, .slice none 0 0], .bool false]) w := .trans (by kernel_rfl) rfl
theorem auv (v : Value) (rx ry : Operand) (w : World) (K : KV) : en P .eql T.an rx ry (.iface T.v v) .nilIface w K = K (.bool false) w := .trans (by kernel_rfl) rfl
def adn (x : Int) : List Value := [.int .u8 x]
theorem il (x : Int) : (adn x).length = 1 := rfl
theorem wk (x : Int) : ∀ u ∈ adn x, jf u = true := fun u hu => by simp [adn] at hu; subst hu; rfl
structure Mem where
 id : Int
 inc : Int
 st : Int
 deriving DecidableEq
def akq (m : Mem) : List Value := [.int .u64 m.id, .int .u64 m.inc, .int .i64 m.st]
theorem apc (m : Mem) : (akq m).length = 3 := rfl
theorem ayz (m : Mem) : ∀ u ∈ akq m, jf u = true := fun u hu => by simp [akq] at hu; rcases hu with rfl | rfl | rfl <;> rfl
end Go.Proofs.YtfnhoaemapheoaaGreat
