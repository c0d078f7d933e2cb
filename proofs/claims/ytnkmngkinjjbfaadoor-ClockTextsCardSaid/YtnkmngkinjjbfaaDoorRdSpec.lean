/- Rides as plain data, and when a ride is valid: no program in sight. -/
import Derived.Test.YtnkmngkinjjbfaaDoorEls
set_option linter.all false
namespace Go.Proofs.YtnkmngkinjjbfaaDoor
open Go.RowKit

/-- a leg: bicycle, first and last moment of its beginning, of its end -/
structure Leg where
  b : Int
  f0 : Int
  f1 : Int
  t0 : Int
  t1 : Int
def Leg.cs (x : Leg) : List Value := [.int .i64 x.b, .int .i64 x.f0, .int .i64 x.f1, .int .i64 x.t0, .int .i64 x.t1]
theorem Leg.len (x : Leg) : x.cs.length = 5 := rfl
/-- a pause: first and last moment of its beginning, of its end -/
structure Pse where
  f0 : Int
  f1 : Int
  t0 : Int
  t1 : Int
def Pse.cs (x : Pse) : List Value := [.int .i64 x.f0, .int .i64 x.f1, .int .i64 x.t0, .int .i64 x.t1]
theorem Pse.len (x : Pse) : x.cs.length = 4 := rfl
/-- a ride, with the places of its lists in memory -/
structure Ride where
  id : Int
  rd : Int
  s0 : Int
  s1 : Int
  e0 : Int
  e1 : Int
  op : Bool
  la : Option Addr
  legs : List Leg
  lc : Nat
  pa : Option Addr
  pauses : List Pse
  pc : Nat
  fw : Int
  fp : Int
  wh : Int
  pl : Int
def Ride.cs (x : Ride) : List Value := [.int .i64 x.id, .int .i64 x.rd, .int .i64 x.s0, .int .i64 x.s1, .int .i64 x.e0, .int .i64 x.e1, .bool x.op, .slice x.la x.legs.length x.lc, .slice x.pa x.pauses.length x.pc, .int .i64 x.fw, .int .i64 x.fp, .int .i64 x.wh, .int .i64 x.pl]
def Ride.ag (x : Ride) : Value := .agg #[.int .i64 x.id, .int .i64 x.rd, .int .i64 x.s0, .int .i64 x.s1, .int .i64 x.e0, .int .i64 x.e1, .bool x.op, .slice x.la x.legs.length x.lc, .slice x.pa x.pauses.length x.pc, .int .i64 x.fw, .int .i64 x.fp, .int .i64 x.wh, .int .i64 x.pl]
theorem Ride.len (x : Ride) : x.cs.length = 13 := rfl
theorem Ride.ag_cs (x : Ride) : x.ag = .agg x.cs.toArray := rfl
instance : Inhabited Leg := ⟨⟨0, 0, 0, 0, 0⟩⟩
instance : Inhabited Pse := ⟨⟨0, 0, 0, 0⟩⟩
instance : Inhabited Ride := ⟨⟨0, 0, 0, 0, 0, 0, false, none, [], 0, none, [], 0, 0, 0, 0, 0⟩⟩
/-- its lists lie in memory -/
structure Ride.At (w : World) (x : Ride) : Prop where
  l : Els Leg.cs 5 w x.la x.legs
  p : Els Pse.cs 4 w x.pa x.pauses
  lm : x.legs.length ≤ 9223372036854775807
  pm : x.pauses.length ≤ 9223372036854775807
theorem Ride.At.since {w : World} {x : Ride} (h : x.At w) (y : Since w) : x.At y.w := ⟨Since.els h.l y, Since.els h.p y, h.lm, h.pm⟩
theorem Ride.At.to {w W : World} {x : Ride} (h : x.At w) (hW : ∃ z : Since w, W = z.w) : x.At W := by
  obtain ⟨z, rfl⟩ := hW; exact h.since z
/-- a list of rides lies in memory -/
structure RideRow (w : World) (a : Option Addr) (l : List Ride) : Prop where
  c : Els Ride.cs 13 w a l
  r : ∀ x ∈ l, x.At w
theorem RideRow.since {w : World} {a : Option Addr} {l : List Ride} (h : RideRow w a l) (y : Since w) : RideRow y.w a l := ⟨Since.els h.c y, fun x hx => (h.r x hx).since y⟩
theorem RideRow.to {w W : World} {a : Option Addr} {l : List Ride} (h : RideRow w a l) (hW : ∃ z : Since w, W = z.w) : RideRow W a l := by
  obtain ⟨z, rfl⟩ := hW; exact h.since z

/-- an interval of moments is valid -/
def vldS (lo hi : Int) : Bool := decide (0 ≤ lo) && decide (lo ≤ hi) && decide (hi ≤ 4294943999)
theorem vldS_iff (lo hi : Int) : vldS lo hi = true ↔ 0 ≤ lo ∧ lo ≤ hi ∧ hi ≤ 4294943999 := by simp [vldS, and_assoc]
def legV (x : Leg) : Bool := vldS x.f0 x.f1 && vldS x.t0 x.t1
def pseV (x : Pse) : Bool := vldS x.f0 x.f1 && vldS x.t0 x.t1
/-- the numbers of its head lie in their ranges -/
def headV (x : Ride) : Bool := decide (1 ≤ x.id) && decide (x.id ≤ 1000000) && decide (0 ≤ x.rd) && decide (x.rd ≤ 127) && vldS x.s0 x.s1 && vldS x.e0 x.e1
def rangedB (x : Ride) : Bool := headV x && x.legs.all legV && x.pauses.all pseV
/-- the legs follow one another from a to e -/
def chainL : Int → Int → List Leg → Int → Int → Bool
  | a0, a1, [], e0, e1 => decide (a0 = e0) && decide (a1 = e1)
  | a0, a1, x :: l, e0, e1 => decide (x.f0 = a0) && decide (x.f1 = a1) && chainL x.t0 x.t1 l e0 e1
def joinedB (x : Ride) : Bool := decide (1 ≤ x.legs.length) && decide (x.legs.length ≤ 512) && decide (x.pauses.length ≤ 512) && chainL x.s0 x.s1 x.legs x.e0 x.e1
/-- the ends of the legs are in order; the end of the last leg of an open ride does not count -/
def legsO (op : Bool) : List Leg → Bool
  | [] => true
  | x :: l => (decide (x.f0 ≤ x.t0) || (op && l.isEmpty)) && legsO op l
/-- the ends of the pauses are in order from 'last' on; what the end is must be at most e unless the ride is open -/
def psesO (op : Bool) (e : Int) : Int → List Pse → Bool
  | last, [] => op || decide (last ≤ e)
  | last, x :: l => decide (last ≤ x.f0) && ((op && l.isEmpty && decide (x.t0 = 0)) || (decide (x.f0 ≤ x.t0) && psesO op e x.t0 l))
def orderedB (x : Ride) : Bool := legsO x.op x.legs && (x.pauses.isEmpty || psesO x.op x.e0 x.s0 x.pauses)
def stateB (x : Ride) : Bool := (x.op && !(decide (x.e0 = 0) && decide (x.e1 = 0))) || (x.op != decide (x.wh = 3))
/-- the error of a ride -/
def rideE (x : Ride) : Int := if rangedB x = false then 1 else if joinedB x = false then 3 else if orderedB x = false then 9 else if stateB x = true then 12 else 0
end Go.Proofs.YtnkmngkinjjbfaaDoor
