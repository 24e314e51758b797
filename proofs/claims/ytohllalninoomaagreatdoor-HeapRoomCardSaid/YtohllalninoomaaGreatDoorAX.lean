/-
  The cells of a call.
-/
import Derived.Test.YtohllalninoomaaGreatDoorA29
namespace Go.Proofs.YtohllalninoomaaGreatDoor
abbrev actA (a : HAct) : Array Value := #[.int .i64 a.act, .int .u64 (a.ctx : Int), .int .i64 a.a.kind, .int .i64 a.a.n, .string a.a.s, .int .u64 (a.a.label : Int), .int .i64 a.b.kind, .int .i64 a.b.n, .string a.b.s, .int .u64 (a.b.label : Int), .int .i64 a.c.kind, .int .i64 a.c.n, .string a.c.s, .int .u64 (a.c.label : Int), .int .i64 a.n, .slice a.cells.A a.cells.xs.length a.cells.cap, .int .i64 a.to.kind, .slice a.to.A a.to.ns.length a.to.c, .slice a.to.A2 a.to.xs.length a.to.c2]
end Go.Proofs.YtohllalninoomaaGreatDoor
