/- The walks of passes, fifth part: the sort. -/
import Derived.Test.YtbkfcdheckkjaaaPsW4
import Derived.Test.YtbkfcdheckkjaaaSort1
import Derived.Test.YtbkfcdheckkjaaaPsLay
set_option linter.all false
namespace Go.Proofs.Ytbkfcdheckkjaaa
open Go.RowKit Go.ChangeMaps Go.Sort Go.Shelf Go.Lib

/-- numbers of the call's own in block g -/
structure Nums (w : World) (g : Nat) (n : Nat) (f : Nat → Int) : Prop where
  lt : g < w.heap.size
  c : ∀ j, j < n → w.cell? ⟨g, j, none⟩ = some (.int .i64 (f j))
  f : ∀ j, j < n → w.frozen? ⟨g, j, none⟩ = false
/-- the numbers of the rides in their order -/
structure Ord (R : List Ride) (o : List Nat) : Prop where
  perm : o.Perm (List.range R.length)
  sorted : o.Pairwise fun i j => bef (rAt R j) (rAt R i) = false
def SortPost (w : World) (g : Nat) (R : List Ride) (e : Ending) (w' : World) : Prop :=
  e = .returned (.tuple #[]) ∧ w.grownBy w' (some g) ∧ ∃ o, Ord R o ∧ Nums w' g R.length (fun j => (o.getD j 0 : Nat))
theorem sort_calls (w : World) (g bx cap : Nat) (a : Option Addr) (c : Nat) (R : List Ride) (hn : 0 < R.length) (hl : R.length < 4611686018427387904) (hN : Nums w g R.length (fun j => (j : Int))) (hb : w.cell? ⟨bx, 0, none⟩ = some (.slice a R.length c)) (hR : Els Ride.cs 13 w a R) (hgb : g ≠ bx) (hga : ∀ b, a = some b → b.block ≠ g) (hid : (R.map fun r : Ride => r.id).Nodup) :
    Calls Try.prog 36 #[.slice (some ⟨g, 0, none⟩) R.length cap, .func (.func 37) #[] #[.pointer (some ⟨bx, 0, none⟩)]] w (SortPost w g R) := by
  have hinst : Inhabited (Fin R.length) := ⟨⟨0, hn⟩⟩
  let enc : Fin R.length → Value := fun i => .int .i64 (i.val : Int)
  let cf : Fin R.length → Fin R.length → Int := fun i k => rcmp (rAt R i.val) (rAt R k.val)
  have hlt : ltOf cf = fun i k => bef (rAt R i.val) (rAt R k.val) := by
    funext i k
    show decide (rcmp _ _ < 0) = _
    unfold rcmp
    cases h : bef (rAt R i.val) (rAt R k.val)
    · cases h2 : bef (rAt R k.val) (rAt R i.val) <;> simp
    · simp
  have hO : SWO (ltOf cf) := by
    rw [hlt]
    exact ⟨fun x => bef_irrefl _, fun x y z h1 h2 => bef_trans h1 h2, fun x y z h1 h2 => bef_ntrans h1 h2⟩
  have hT : ∀ x y, (ltOf cf) x y = false → (ltOf cf) y x = false → x = y := fun x y h1 h2 => by
    rw [hlt] at h1 h2
    have h3 := bef_total h1 h2
    have e1 : (R.map fun r : Ride => r.id)[x.val]? = some (rAt R x.val).id := map_at (f := fun r : Ride => r.id) (by unfold rAt; rw [List.getD_eq_getElem?_getD, List.getElem?_eq_getElem x.isLt]; rfl)
    have e2 : (R.map fun r : Ride => r.id)[y.val]? = some (rAt R y.val).id := map_at (f := fun r : Ride => r.id) (by unfold rAt; rw [List.getD_eq_getElem?_getD, List.getElem?_eq_getElem y.isLt]; rfl)
    rw [← h3] at e2
    have h4 := List.getElem?_eq_some_iff.1 e1
    have h5 := List.getElem?_eq_some_iff.1 e2
    exact Fin.ext ((List.getElem_inj hid).1 (h4.2.trans h5.2.symm))
  have eg : ∀ args w, (callFunc 37 args).run Try.prog w = .ok (.enter 37 args) w := enters_of Try.func37 (by kernel_rfl) rfl
  have hbl : bx < w.heap.size := World.block_lt_of_cell? w _ hb
  have hcmp : CmpLays1 Try.prog 37 #[.pointer (some ⟨bx, 0, none⟩)] enc cf g 0 R.length w := fun m os dk _ x y => by
    have hg := grownBy_sort1 enc w g m dk os
    have hb' : (sortWorld enc w g 0 m dk os).cell? ⟨bx, 0, none⟩ = some (.slice a R.length c) := by
      rw [World.cell?_of_block (w := w) (a := ⟨bx, 0, none⟩) (hg.block bx hbl (by simpa using Ne.symm hgb))]; exact hb
    have hR' : Els Ride.cs 13 (sortWorld enc w g 0 m dk os) a R := hR.keep hg.size fun b off ha hlt => hg.block b hlt (by have := hga _ ha; simpa using this)
    exact cmp_calls _ bx a c R x.val y.val (rAt R x.val) (rAt R y.val) hb' hR' (by unfold rAt; rw [List.getD_eq_getElem?_getD, List.getElem?_eq_getElem x.isLt]; rfl) (by unfold rAt; rw [List.getD_eq_getElem?_getD, List.getElem?_eq_getElem y.isLt]; rfl) (by omega)
  let d : Array (Fin R.length) := (List.finRange R.length).toArray
  have hd : d.size = R.length := by simp [d]
  have hH : Holds enc w g 0 d := fun j hj => by
    rw [hd] at hj
    have e1 : d[j]! = ⟨j, hj⟩ := by
      rw [getElem!_pos d j (by rw [hd]; exact hj)]
      simp [d]
    rw [e1, Nat.zero_add]
    exact ⟨hN.c j hj, hN.f j hj⟩
  have hc := Any.slices_SortFunc_total Try.sortInt enc (fun _ => rfl) cf hO 37 #[.pointer (some ⟨bx, 0, none⟩)] g 0 cap d w eg (by rw [hd]; exact hcmp) hH hN.lt (by rw [hd]; exact hl) hT
  rw [hd] at hc
  change Calls Try.prog 36 _ _ _ at hc
  refine hc.mono ?_
  rintro _ _ ⟨rfl, n, os, rfl⟩
  have hs : ((d.toList.mergeSort fun x y => !ltOf cf y x).toArray).size = d.size := by simp
  have hh := holds_sortWorld enc w g 0 n d (d.toList.mergeSort fun x y => !ltOf cf y x).toArray os hN.lt hH hs
  have hpm : (d.toList.mergeSort fun x y => !ltOf cf y x).Perm (List.finRange R.length) := by
    have := List.mergeSort_perm d.toList fun x y => !ltOf cf y x
    simpa [d] using this
  have hpw : (d.toList.mergeSort fun x y => !ltOf cf y x).Pairwise fun x y => bef (rAt R y.val) (rAt R x.val) = false := by
    have := List.pairwise_mergeSort (le := fun x y => !ltOf cf y x) (fun a b c h1 h2 => by
      simp only [Bool.not_eq_true'] at h1 h2 ⊢; exact hO.ntrans _ _ _ h2 h1) (fun a b => by
      simp only [Bool.or_eq_true, Bool.not_eq_true']
      cases e : ltOf cf b a
      · exact .inl rfl
      · refine .inr ?_
        cases e2 : ltOf cf a b
        · rfl
        · have := hO.trans _ _ _ e e2; rw [hO.irrefl] at this; cases this) d.toList
    exact this.imp fun h => by rw [hlt] at h; simpa using h
  refine ⟨rfl, grownBy_sort1 _ _ _ _ _ _, (d.toList.mergeSort fun x y => !ltOf cf y x).map (·.val), ⟨?_, ?_⟩, ?_⟩
  · have := hpm.map (·.val)
    rwa [show (List.finRange R.length).map (·.val) = List.range R.length from by
      apply List.ext_getElem (by simp)
      intro i h1 h2
      simp] at this
  · rw [List.pairwise_map]; exact hpw
  · refine ⟨Nat.lt_of_lt_of_le hN.lt (grownBy_sort1 _ _ _ _ _ _).size, fun j hj => ?_, fun j hj => ?_⟩
    · have := (hh j (by rw [hs, hd]; exact hj)).1
      rw [Nat.zero_add] at this
      rw [this]
      have hjl : j < (d.toList.mergeSort fun x y => !ltOf cf y x).length := by rw [hpm.length_eq]; simpa using hj
      rw [getElem!_pos _ j (by rw [hs, hd]; exact hj)]
      show some (Value.int .i64 _) = some (Value.int .i64 _)
      rw [List.getD_eq_getElem?_getD, List.getElem?_map, List.getElem?_eq_getElem hjl]
      simp
    · have := (hh j (by rw [hs, hd]; exact hj)).2
      rw [Nat.zero_add] at this
      exact this
end Go.Proofs.Ytbkfcdheckkjaaa
