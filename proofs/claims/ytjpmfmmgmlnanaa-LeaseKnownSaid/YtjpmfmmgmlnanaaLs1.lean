/-
  A lease's client as data, and what its calls make of it, plainly.
-/
import Derived.Test.YtjpmfmmgmlnanaaDh1
namespace Go.Proofs.Ytjpmfmmgmlnanaa
open Go.RowKit

structure Cl where
  m : Mac6
  state : Int
  now : Int
  xid : Int
  addr : Ad4
  mask : Ad4
  router : Ad4
  server : Ad4
  til : Int
  had : Int
  want : Ad4
  src : Ad4
  sent : Int
  wait : Int
  sends : Int
abbrev clC (c : Cl) : Array Value := #[.int .u8 (c.m.a.toNat : Int), .int .u8 (c.m.b.toNat : Int), .int .u8 (c.m.c.toNat : Int), .int .u8 (c.m.d.toNat : Int), .int .u8 (c.m.e.toNat : Int), .int .u8 (c.m.f.toNat : Int),
  .int .i64 c.state, .int .i64 c.now, .int .u32 c.xid,
  .int .u8 (c.addr.a.toNat : Int), .int .u8 (c.addr.b.toNat : Int), .int .u8 (c.addr.c.toNat : Int), .int .u8 (c.addr.d.toNat : Int),
  .int .u8 (c.mask.a.toNat : Int), .int .u8 (c.mask.b.toNat : Int), .int .u8 (c.mask.c.toNat : Int), .int .u8 (c.mask.d.toNat : Int),
  .int .u8 (c.router.a.toNat : Int), .int .u8 (c.router.b.toNat : Int), .int .u8 (c.router.c.toNat : Int), .int .u8 (c.router.d.toNat : Int),
  .int .u8 (c.server.a.toNat : Int), .int .u8 (c.server.b.toNat : Int), .int .u8 (c.server.c.toNat : Int), .int .u8 (c.server.d.toNat : Int),
  .int .i64 c.til, .int .i64 c.had,
  .int .u8 (c.want.a.toNat : Int), .int .u8 (c.want.b.toNat : Int), .int .u8 (c.want.c.toNat : Int), .int .u8 (c.want.d.toNat : Int),
  .int .u8 (c.src.a.toNat : Int), .int .u8 (c.src.b.toNat : Int), .int .u8 (c.src.c.toNat : Int), .int .u8 (c.src.d.toNat : Int),
  .int .i64 c.sent, .int .i64 c.wait, .int .i64 c.sends]
def Cl.new (m : Mac6) : Cl := ⟨m, 0, 0, 0, ad0, ad0, ad0, ad0, 0, 0, ad0, ad0, 0, 0, 0⟩

/-- Within what the reckoning stays. -/
structure Cl.ok (c : Cl) : Prop where
  now0 : 0 ≤ c.now
  now1 : c.now ≤ 1099511627776
  sent0 : 0 ≤ c.sent
  sent1 : c.sent ≤ 1099511627776
  had0 : 0 ≤ c.had
  had1 : c.had ≤ c.til
  til1 : c.til ≤ 2199023255552
  wait0 : 0 ≤ c.wait
  wait1 : c.wait ≤ 64
  sends0 : 0 ≤ c.sends
  sends1 : c.sends ≤ 4611686018427387904
  xid0 : 0 ≤ c.xid
  xid1 : c.xid < 4294967296

def Cl.msg (c : Cl) : Hd × List Ob :=
  if c.state = 1 then (⟨1, 0, c.xid, 0, 32768, ad0, ad0, ad0, ad0, c.m⟩, [(53, [1]), (55, [1, 3, 6])])
  else if c.state = 2 then (⟨1, 0, c.xid, 0, 32768, ad0, ad0, ad0, ad0, c.m⟩, [(53, [3]), (50, c.want.bytes), (54, c.src.bytes), (55, [1, 3, 6])])
  else (⟨1, 0, c.xid, 0, 0, c.addr, ad0, ad0, ad0, c.m⟩, [(53, [3])])
def Cl.send (c : Cl) (now wait : Int) : Cl := { c with sent := now, wait := wait, sends := c.sends + 1 }
def Cl.start (c : Cl) (st now wait : Int) : Cl := { c with state := st, sends := 1, sent := now, wait := wait }
def Cl.lose (c : Cl) : Cl := { c with state := 0, addr := ad0, mask := ad0, router := ad0, server := ad0, til := 0 }
def Cl.time (c : Cl) (t : Int) : Cl := if c.now < t ∧ t ≤ 1099511627776 then { c with now := t } else c
/-- Sends once more, if it is time to. -/
def Cl.again (c : Cl) (now : Int) : Cl × Bool :=
  if now - c.sent < c.wait then (c, false)
  else if c.state = 2 ∧ 4 ≤ c.sends then ({ c with state := 0 }, false)
  else if c.state = 1 ∨ c.state = 2 then (c.send now (min (2 * c.wait) 64), true)
  else (c.send now 60, true)
def Cl.late (c : Cl) (now : Int) : Cl := if 3 ≤ c.state ∧ c.til ≤ now then c.lose else c
def Cl.go (c : Cl) (now draw : Int) : Cl × Bool :=
  if c.state = 0 then (({ c with xid := draw } : Cl).start 1 now 4, true)
  else if c.state = 3 then if now < c.had + (c.til - c.had) / 2 then (c, false) else (({ c with xid := draw } : Cl).start 4 now 60, true)
  else if c.state = 4 ∧ c.had + (c.til - c.had) * 7 / 8 ≤ now then (c.start 5 now 60, true)
  else c.again now
def Cl.tick (c : Cl) (t draw : Int) : Cl × Bool := ((c.time t).late (c.time t).now).go (c.time t).now draw
end Go.Proofs.Ytjpmfmmgmlnanaa
