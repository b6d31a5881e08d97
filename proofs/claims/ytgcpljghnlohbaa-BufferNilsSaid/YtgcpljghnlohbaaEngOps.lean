/-
  The engine's words for the operations: each is what the model's own entry does. No condition.
-/
import Derived.Test.YtgcpljghnlohbaaEng
namespace Go.Eng
section
variable (P : Program)
def alT (t : TypeId) (w : World) (K : KV) : Prop := semT P (Instr.alloc t true (.tuple #[])) w K
def boxT (t : TypeId) (v : Value) (w : World) (K : KV) : Prop := semT P (Instr.box t v) w K
def bldT (t : TypeId) (ps : Array (Nat × Value)) (w : World) (K : KV) : Prop := semT P (Instr.build t ps) w K
def bsT (t : TypeId) (n : Nat) (ps : Array (Nat × Value)) (w : World) (K : KV) : Prop := semT P (Instr.buildSlice t n ps) w K
def ldT (t : TypeId) (a : Value) (w : World) (K : KV) : Prop := semT P (Instr.loadAt t a) w K
def stT (t : TypeId) (a v : Value) (w : World) (K : KV) : Prop := semU P (Instr.storeAt t a v) w K
def binT (op : BinOp) (t : TypeId) (rx ry : Operand) (x y : Value) (w : World) (K : KV) : Prop := semT P (do eqGuard op t rx ry x y; binOp op t x y) w K
def unT (op : UnOp) (x : Value) (w : World) (K : KV) : Prop := semT P (Op.unary op x) w K
def cvT (s d : TypeId) (x : Value) (w : World) (K : KV) : Prop := semT P (convert s d x) w K
def mkiT (t : TypeId) (x : Value) (w : World) (K : KV) : Prop := semT P (Instr.makeInterface t x) w K
def mkfT (fn : Fn) (f c : List Value) (w : World) (K : KV) : Prop := semT P (Instr.makeFunc fn f.toArray c.toArray) w K
def mkmT (t : TypeId) (r : Option Value) (w : World) (K : KV) : Prop := semT P (Instr.makeMap t r) w K
def mksT (t : TypeId) (l c : Value) (w : World) (K : KV) : Prop := semT P (Instr.makeSlice t l c) w K
def slT (t : TypeId) (x : Value) (lo hi mx : Option Value) (w : World) (K : KV) : Prop := semT P (Instr.sliceAt t x lo hi mx) w K
def faT (t : TypeId) (x : Value) (f : Nat) (w : World) (K : KV) : Prop := semT P (Instr.fieldAt t x f) w K
def fdT (t : TypeId) (x : Value) (f : Nat) (w : World) (K : KV) : Prop := semT P (Instr.field t x f) w K
def iaT (t : TypeId) (x i : Value) (w : World) (K : KV) : Prop := semT P (Instr.indexAt t x i) w K
def ixT (t : TypeId) (x i : Value) (w : World) (K : KV) : Prop := semT P (Instr.index t x i) w K
def luT (t : TypeId) (x i : Value) (ok : Bool) (w : World) (K : KV) : Prop := semT P (Instr.lookup t x i ok) w K
def muT (t : TypeId) (m k x : Value) (w : World) (K : KV) : Prop := semU P (Instr.mapUpdate t m k x) w K
def meT (t : TypeId) (m k : Value) (w : World) (K : KV) : Prop := semT P (Instr.mapEntry t m k) w K
def esT (t : TypeId) (m s x : Value) (w : World) (K : KV) : Prop := semU P (Instr.entryStore t m s x) w K
def rgT (t : TypeId) (x : Value) (w : World) (K : KV) : Prop := semT P (Instr.range t x) w K
def nxT (it : Value) (s : Bool) (t : TypeId) (w : World) (K : KV) : Prop := semT P (Instr.next it s t) w K
def enT (it : Value) (w : World) (K : KV) : Prop := semT P (Instr.entry it) w K
def taT (x : Value) (t a : TypeId) (ok : Bool) (w : World) (K : KV) : Prop := semT P (Instr.typeAssert x t a ok) w K
def exT (x : Value) (i : Nat) (w : World) (K : KV) : Prop := semT P (Instr.extract x i) w K
def resT (t : TypeId) (a : Value) (w : World) (K : KV) : Prop := semT P (cellSem t a) w K
end
def panicT (_ : World) (_ : KV) : Prop := False
end Go.Eng
