/-
  Commands as values, and which may be. No program in sight.
-/
import Derived.Test.YtleagecocffihaaCommon
namespace Go.Proofs.Ytleagecocffihaa
open Go.RowKit

structure Cm where
  k : Int
  c : Int
  s : Int
  a : ByteArray
  b : ByteArray
  o : ByteArray
  v : ByteArray
def Cm.zero : Cm := ⟨0, 0, 0, ByteArray.empty, ByteArray.empty, ByteArray.empty, ByteArray.empty⟩
def Cm.cells (x : Cm) : List Value := [.int .i64 x.k, .int .i64 x.c, .int .i64 x.s, .string x.a, .string x.b, .string x.o, .string x.v]
def Cm.eqB (x y : Cm) : Bool := x.k == y.k && (x.c == y.c && (x.s == y.s && (x.a == y.a && (x.b == y.b && (x.o == y.o && x.v == y.v)))))
def clientCells (id seq : Int) (x : Cm) (waits : Bool) (target ticks : Int) : List Value :=
  [.int .i64 id, .int .i64 seq, .int .i64 x.k, .int .i64 x.c, .int .i64 x.s, .string x.a, .string x.b, .string x.o, .string x.v, .bool waits, .int .i64 target, .int .i64 ticks]
end Go.Proofs.Ytleagecocffihaa
