/- The walks of replicas, sixth part: the sort of events. -/
import Derived.Test.YtcpfogbjbinjcaaGsW5
import Derived.Test.YtcpfogbjbinjcaaGsLay
import Derived.Test.YtcpfogbjbinjcaaSortK
set_option linter.all false
namespace Go.Proofs.Ytcpfogbjbinjcaa
open Go.RowKit Go.ChangeMaps Go.Sort Go.Shelf Go.Lib


theorem ltOf_ecmp : ltOf ecmp = less := by
  funext x y
  unfold ltOf
  exact ecmp_less x y
theorem swo_less : SWO (ltOf ecmp) := by
  rw [ltOf_ecmp]
  exact ⟨less_irrefl, fun x y z h1 h2 => less_trans h1 h2, fun x y z h1 h2 => less_ntrans h1 h2⟩
theorem cs_one (x : Ev) : ∀ v ∈ x.cs, v.oneCell' = true := fun v hv => by
  simp [Ev.cs] at hv
  rcases hv with rfl | rfl | rfl | rfl | rfl | rfl | rfl | rfl | rfl <;> rfl
/-- what the sort leaves of a slice of the call's own -/
def SortPost (w : World) (base : Nat) (v : Value) (l : List Ev) (e : Ending) (w' : World) : Prop :=
  e = .returned (.tuple #[]) ∧ w.grownBy w' v.ownBlock ∧ ∃ a cap, v = .slice a l.length cap ∧ l.length ≤ cap ∧ EvRow w' a (sortE l) ∧ (∀ b, a = some b → base ≤ b.block) ∧ (∀ b off, a = some ⟨b, off, none⟩ → ∀ j, j < l.length * 9 → w'.frozen? ⟨b, off + j, none⟩ = false)
theorem sort_calls (w : World) (base : Nat) (v : Value) (n : Nat) (l : List Ev) (hown : w.ownsRow base 33 9 v n (flat Ev.cs l)) (hl : l.length < 4611686018427387904) :
    Calls Try.prog 39 #[v, .func (.func 40) #[] #[]] w (SortPost w base v l) := by
  obtain ⟨rfl, a, cap, rfl, hcap, hels, hbase, hblk⟩ := own_els cs_len (by decide) hown
  by_cases h0 : l.length = 0
  · have hl0 : l = [] := List.eq_nil_of_length_eq_zero h0
    subst hl0
    have hc := AnyF.slices_SortFunc_none { Try.sortEv with } a cap (.func (.func 40) #[] #[]) w
    change Calls Try.prog 39 _ _ _ at hc
    refine hc.mono ?_
    rintro _ _ ⟨rfl, rfl⟩
    exact ⟨rfl, World.grownBy.refl _ _, a, cap, rfl, hcap, by rw [show sortE [] = [] from by simp [sortE]]; exact els_nil _ _, hbase, fun b off h j hj => by simp at hj⟩
  · obtain ⟨x, hx⟩ : ∃ x, l[0]? = some x := ⟨l[0]'(by omega), List.getElem?_eq_getElem (by omega)⟩
    obtain ⟨g, off, ha, hg, _⟩ := hels 0 x hx
    subst ha
    obtain rfl : off = 0 := by
      obtain ⟨_, ⟨hbad, _⟩ | ⟨g', cap', cur, he, _⟩⟩ := hown
      · cases hbad
      · simp at he; exact he.1.2
    have hH := own_holdsK (l := l) cs_len (by decide) hown
    have eg : ∀ args w, (callFunc 40 args).run Try.prog w = .ok (.enter 40 args) w := enters_of Try.func40 (by kernel_rfl) rfl
    have hcmp : CmpLays Try.prog 40 #[] Ev.cs 9 ecmp g 0 l.toArray.size w := fun m os dk _ u v => by
      have := order_calls u v (sortWorldK Ev.cs 9 w g 0 m dk os)
      exact this
    have hc := AnyQ.slices_SortFunc_total Try.sortEv 9 Try.isAgg33 Try.sizeOf33 Ev.cs cs_len cs_one ecmp swo_less 40 #[] g 0 cap l.toArray w eg hcmp hH hg (by simpa using hl) (fun u v h1 h2 => by rw [ltOf_ecmp] at h1 h2; exact less_total h1 h2)
    change Calls Try.prog 39 _ _ _ at hc
    refine hc.mono ?_
    rintro _ _ ⟨rfl, n, os, rfl⟩
    have hsort : (l.toArray.toList.mergeSort fun x y => !ltOf ecmp y x) = sortE l := by rw [ltOf_ecmp]; rfl
    rw [hsort]
    have hh := holdsK_sortWorldK_c Ev.cs 9 w g 0 l.toArray (sortE l).toArray n os hH hg (by simp [sortE_length])
    refine ⟨rfl, grownBy_sortK _ _ _ _ _ _ _, _, cap, rfl, hcap, ?_, hbase, ?_⟩
    · have := els_of_holdsK cs_len hh (Nat.lt_of_lt_of_le hg (grownBy_sortK _ _ _ _ _ _ _).size)
      simpa using this
    · intro b off hb j hj
      have hb' : g = b ∧ 0 = off := by simpa using hb
      obtain ⟨rfl, rfl⟩ := hb'
      exact (hh j (by rw [size_flatK]; simpa [sortE_length] using hj)).2
end Go.Proofs.Ytcpfogbjbinjcaa
