/- The frame of the laws of replicas: opening what comes in. -/
import Derived.Test.YtcpfogbjbinjcaaFrameE
import Derived.Test.YtcpfogbjbinjcaaFrame2
import Derived.Test.YtcpfogbjbinjcaaGsW1
import Derived.Test.YtcpfogbjbinjcaaProg
set_option linter.all false
namespace Go.Proofs.Ytcpfogbjbinjcaa
open Go.ChangeShapes Go.WideShapes Go.ChangeAt Go.RowKit

theorem own : ownKnob Try.prog.godebug = none := by kernel_rfl
theorem laidOut : laidOutB Try.prog = true := by kernel_rfl
theorem cInt : Try.prog.cellsOf 3 = 1 := by kernel_rfl
theorem cEvent : Try.prog.cellsOf 33 = 9 := by kernel_rfl
noncomputable def evFields : Array Field := Try.prog.fieldsOf 33
theorem uEvent : Try.prog.underlying 33 = some (.struct evFields) := by kernel_rfl
theorem evFields_size : evFields.size = 9 := by kernel_rfl
theorem evFields_all : (evFields.toList.map fun f => (f.offset, f.type)) = (List.range 9).map fun i => (i, 3) := by kernel_rfl
theorem evFields_at (i : Nat) (h : i < 9) : (evFields[i]?).map (fun f => (f.offset, f.type)) = some (i, 3) := by
  have h1 := congrArg (fun l => l[i]?) evFields_all
  simp only [List.getElem?_map, Array.getElem?_toList] at h1
  rw [h1, List.getElem?_range h]
  rfl
theorem evFields_int : IntFields Try.prog evFields := by
  intro i f h
  have hi : i < 9 := by
    rw [← evFields_size]
    exact (Array.getElem?_eq_some_iff.1 h).1
  have := evFields_at i hi
  rw [h] at this
  have h2 := Option.some.inj this
  have h3 : f.offset = i := congrArg Prod.fst h2
  have h4 : f.type = 3 := congrArg Prod.snd h2
  exact ⟨h3, by rw [h4]; exact cInt, by rw [h4]; exact Try.underlying3⟩
/-- an event's numbers lie in an int each -/
def EvI (e : Ev) : Prop := ∀ z ∈ e.ks, I64 z
set_option maxRecDepth 20000 in
theorem open_event {H : Type} {enc : TypeId × Value → H} {w : World} {b0 : Nat} {r : Reach} {held : Bool} {v : Value} {d : DataW H} {p : List MemPlace} (hv : Value.okWide Try.prog w r b0 33 v) (h : DataW.Trod enc Try.prog w 0 (fun _ => true) held 33 v d p) :
    ∃ e : Ev, v = e.ag := by
  obtain ⟨cs, rfl, hsz⟩ := okWide_struct uEvent hv
  obtain ⟨l⟩ := cs
  obtain ⟨fuel, hf⟩ := h
  obtain ⟨ns, hns, hlen, _⟩ := trod_ints uEvent evFields_int (cEvent.trans evFields_size.symm) hf
  rw [evFields_size] at hlen
  have hl : l = ns.map (Value.int .i64) := by simpa [Value.cells] using hns
  subst hl
  match ns, hlen with
  | [a, b, c, d, e, f, g, h, i], _ => exact ⟨⟨a, b, c, d, e, f, g, h, i⟩, rfl⟩
def evOf (ns : List Int) : Ev := ⟨at0 ns 0, at0 ns 1, at0 ns 2, at0 ns 3, at0 ns 4, at0 ns 5, at0 ns 6, at0 ns 7, at0 ns 8⟩
theorem evOf_cs (ns : List Int) (h : ns.length = evFields.size) : (evOf ns).cs = ns.map (Value.int .i64) := by
  rw [evFields_size] at h
  match ns, h with
  | [a, b, c, d, e, f, g, h, i], _ => rfl
set_option maxRecDepth 20000 in
theorem open_events {H : Type} {enc : TypeId × Value → H} {w : World} {b0 : Nat} {r : Reach} {held : Bool} {v : Value} {d : DataW H} {p : List MemPlace} (hv : Value.okWide Try.prog w r b0 22 v) (h : DataW.Trod enc Try.prog w 0 (fun _ => true) held 22 v d p) :
    ∃ (a : Option Addr) (l : List Ev) (cap : Nat), v = .slice a l.length cap ∧ l.length ≤ cap ∧ cap ≤ 9223372036854775807 ∧ (a = none → cap = 0) ∧ EvRow w a l := by
  obtain ⟨a, l, cap, h1, h2, h3, h4, h5, _⟩ := open_els (encA := Ev.cs) (dec := evOf) Try.underlying22 uEvent evFields_int (cEvent.trans evFields_size.symm) (by rw [evFields_size]; decide) evOf_cs hv h
  rw [evFields_size] at h5
  exact ⟨a, l, cap, h1, h2, h3, h4, h5⟩
theorem cU8 : Try.prog.cellsOf 5 = 1 := by kernel_rfl
theorem cU64 : Try.prog.cellsOf 57 = 1 := by kernel_rfl
theorem cA2 : Try.prog.cellsOf 63 = 2 := by kernel_rfl
theorem cA3 : Try.prog.cellsOf 58 = 3 := by kernel_rfl
set_option maxRecDepth 20000 in
theorem open_a2 {H : Type} {enc : TypeId × Value → H} {w : World} {b0 : Nat} {r : Reach} {held : Bool} {v : Value} {d : DataW H} {p : List MemPlace} (hv : Value.okWide Try.prog w r b0 63 v) (h : DataW.Trod enc Try.prog w 0 (fun _ => true) held 63 v d p) :
    ∃ x y : Int, v = .agg #[.int .u64 x, .int .u64 y] ∧ (0 ≤ x ∧ x < 18446744073709551616) ∧ (0 ≤ y ∧ y < 18446744073709551616) := by
  obtain ⟨ns, rfl, hl, hw⟩ := open_array Try.underlying63 Try.underlying57 cU64 cA2 (okWide_array Try.underlying63 hv) h
  match ns, hl with
  | [x, y], _ => exact ⟨x, y, rfl, wf_u64 (hw x (by simp)), wf_u64 (hw y (by simp))⟩
set_option maxRecDepth 20000 in
theorem open_a3 {H : Type} {enc : TypeId × Value → H} {w : World} {b0 : Nat} {r : Reach} {held : Bool} {v : Value} {d : DataW H} {p : List MemPlace} (hv : Value.okWide Try.prog w r b0 58 v) (h : DataW.Trod enc Try.prog w 0 (fun _ => true) held 58 v d p) :
    ∃ x y z : Int, v = .agg #[.int .u64 x, .int .u64 y, .int .u64 z] ∧ (0 ≤ x ∧ x < 18446744073709551616) ∧ (0 ≤ y ∧ y < 18446744073709551616) ∧ (0 ≤ z ∧ z < 18446744073709551616) := by
  obtain ⟨ns, rfl, hl, hw⟩ := open_array Try.underlying58 Try.underlying57 cU64 cA3 (okWide_array Try.underlying58 hv) h
  match ns, hl with
  | [x, y, z], _ => exact ⟨x, y, z, rfl, wf_u64 (hw x (by simp)), wf_u64 (hw y (by simp)), wf_u64 (hw z (by simp))⟩
theorem wf_u8 {n : Int} (h : (Lit.int .u8 n).wf = true) : 0 ≤ n ∧ n ≤ 255 := by
  have h1 : (decide ((0 : Int) ≤ n) && decide (n ≤ 255)) = true := h
  simpa using h1
end Go.Proofs.Ytcpfogbjbinjcaa
