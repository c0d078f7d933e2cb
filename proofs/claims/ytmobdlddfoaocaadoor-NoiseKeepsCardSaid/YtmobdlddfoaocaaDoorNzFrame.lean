/- What the rows of noise ask of memory: the table of signs; opening api.Noise. -/
import Derived.Test.YtmobdlddfoaocaaDoorNzL1
import Derived.Test.YtmobdlddfoaocaaDoorFrame
namespace Go.Proofs.YtmobdlddfoaocaaDoor
open Go.ChangeShapes Go.WideShapes Go.ChangeAt Go.RowKit

theorem own : ownKnob Tryd.prog.godebug = none := by kernel_rfl
theorem laidOut : laidOutB Tryd.prog = true := by kernel_rfl
def laidL : List (String × DataW Unit) := Rows.noiseChecksRow.laid
def signsName : String := ((laidL.map Prod.fst).head?).getD default
theorem gSigns : Tryd.prog.globalNamed signsName = some 0 := by kernel_rfl
theorem tSigns : (Tryd.prog.globals[0]?).map (·.type) = some 58 := by kernel_rfl
theorem cInt : Tryd.prog.cellsOf 3 = 1 := by kernel_rfl
theorem cU64 : Tryd.prog.cellsOf 55 = 1 := by kernel_rfl
theorem cNoise : Tryd.prog.cellsOf 24 = 1 := by kernel_rfl
theorem cSlice : Tryd.prog.cellsOf 22 = 1 := by kernel_rfl
theorem cArr : Tryd.prog.cellsOf 58 = 2 := by kernel_rfl

theorem door_met (os : Os) (args : Array Value) : laidMetH Tryd.prog laidL ((World.doorLaid Tryd.prog 400 os).forCall (fun _ _ => 0) ⟨#[], args, []⟩).memory :=
  laidMetH_of_parts3 (fuel := 8) (laidMet_of_run' 8 (by kernel_rfl) (by kernel_rfl)) (by kernel_rfl) (by kernel_rfl)

theorem signs_of_laid {W : World} (h : laidMetH Tryd.prog laidL W) : Signs W := by
  rw [MakeChecks.laidMetH_plain _ _ _ (by kernel_rfl)] at h
  obtain ⟨ps, ⟨g0, t0, cs0, f0, p0, q0, hg0, ht0, hv0, hd0, _⟩, _⟩ := h
  obtain rfl := Option.some.inj (gSigns.symm.trans hg0)
  obtain rfl := Option.some.inj (tSigns.symm.trans ht0)
  obtain ⟨xs, m1, rfl, hx1, hlen, hn3, hel⟩ := DataW.trod_array Tryd.underlying58 hd0
  have h0 := hel 0 (by decide)
  have h1 := hel 1 (by decide)
  rw [cInt] at h0 h1
  rw [cArr] at hlen
  obtain ⟨l⟩ := cs0
  match l, hlen, xs, hn3, hx1, h0, h1, hv0 with
  | [c0, c1], _, [x0, x1], _, hx1, h0, h1, hv0 =>
    simp only [List.map_cons, List.map_nil, List.cons.injEq, Prod.mk.injEq, Rows.laid_bikeshare_noise_signs, DataW.agg.injEq] at hx1
    obtain ⟨k0, e0, d0, _⟩ := DataW.trod_int Tryd.underlying3 (show DataW.trod _ Tryd.prog W 0 _ _ m1 3 _ = some x0 from h0)
    obtain ⟨k1, e1, d1, _⟩ := DataW.trod_int Tryd.underlying3 (show DataW.trod _ Tryd.prog W 0 _ _ m1 3 _ = some x1 from h1)
    rw [d0, d1] at hx1
    have hk0 : k0 = -1 := by simpa using hx1.1.1.symm
    have hk1 : k1 = 1 := by simpa using hx1.1.2.1.symm
    have hc0 : c0 = .int .i64 (-1) := by rw [← hk0]; simpa using e0
    have hc1 : c1 = .int .i64 1 := by rw [← hk1]; simpa using e1
    have c0' : W.cell? ⟨0, 0, none⟩ = some (.int .i64 (-1)) := by
      rw [World.var?_cell hg0 hv0 0, hc0]; rfl
    have c1' : W.cell? ⟨0, 1, none⟩ = some (.int .i64 1) := by
      rw [World.var?_cell hg0 hv0 1, hc1]; rfl
    exact ⟨World.block_lt_of_cell? W _ c0', c0', c1'⟩

/-- an api.Noise that came in -/
theorem open_noise {H : Type} {enc : TypeId × Value → H} {w : World} {b0 : Nat} {r : Reach} {held : Bool} {v : Value} {d : DataW H} {p : List MemPlace} (hv : Value.okWide Tryd.prog w r b0 24 v) (h : DataW.Trod enc Tryd.prog w 0 (fun _ => true) held 24 v d p) :
    ∃ a l cap, v = .agg #[.slice a l.length cap] ∧ l.length ≤ cap ∧ cap ≤ 9223372036854775807 ∧ IntRow w a l ∧ ∀ i, I64 (at0 l i) := by
  obtain ⟨c, n, y, rfl, hy⟩ := open_one Tryd.underlying24 cNoise cSlice rfl hv h
  obtain ⟨a, l, cap, rfl, h1, h2, h3, h4⟩ := open_row Tryd.underlying22 Tryd.underlying3 cInt hy
  exact ⟨a, l, cap, rfl, h1, h2, h3, at0_mem (p := I64) ⟨by decide, by decide⟩ fun z hz => wf_i64 (h4 z hz)⟩
end Go.Proofs.YtmobdlddfoaocaaDoor
