/- The walks of replicas, the references, fifth part: Seen. -/
import Derived.Test.YtcpfogbjbinjcaaGsR4
set_option linter.all false
namespace Go.Proofs.Ytcpfogbjbinjcaa
open Go.RowKit Go.ChangeMaps

/-- numbers in memory -/
def NumsPost (w0 : World) (l : List Int) (o : Ending) (w' : World) : Prop :=
  ∃ (a : Option Addr) (cap : Nat) (y : Since w0), o = .returned (.slice a l.length cap) ∧ w' = y.w ∧ l.length ≤ cap ∧ IntRow y.w a l
/-- the cells of the first k numbers -/
def seenV (l : List Ev) (k : Nat) : List Value := (List.range k).map fun (d : Nat) => .int .i64 (seenN l (d : Int) : Int)
theorem seenV_len (l : List Ev) (k : Nat) : (seenV l k).length = k := by simp [seenV]
theorem seenV_next (l : List Ev) (k : Nat) : seenV l (k + 1) = seenV l k ++ [.int .i64 (seenN l (k : Int) : Int)] := by simp [seenV, List.range_succ]
theorem seenV_row {w : World} {base n : Nat} {e : TypeId} {v : Value} {N : Nat} {l : List Ev} (h : w.ownsRow base e 1 v n (seenV l N)) : ∃ a cap, v = .slice a N cap ∧ N ≤ cap ∧ IntRow w a (seenL N l) := by
  obtain ⟨hl, h | ⟨g, cap, cur, rfl, hg, hh, hn, hm, hs, ht⟩⟩ := h
  · obtain ⟨rfl, hz⟩ := h
    rw [seenV_len] at hl
    have : N = 0 := by omega
    subst this
    exact ⟨none, 0, rfl, Nat.le_refl _, fun i hi => by rw [seenL_length] at hi; omega⟩
  · rw [seenV_len] at hl
    have : n = N := by omega
    subst this
    refine ⟨some ⟨g, 0, none⟩, cap, rfl, hn, fun i hi => ?_⟩
    rw [seenL_length] at hi
    refine ⟨g, 0, rfl, (Array.getElem?_eq_some_iff.1 hh).1, ?_⟩
    have hv : (seenV l n)[i]? = some (.int .i64 (seenN l (i : Int) : Int)) := by simp [seenV, hi]
    rw [← ht, List.getElem?_take] at hv
    split at hv
    · simp only [World.cell?, hh, Nat.zero_add]
      show _ = some (Value.int .i64 (at0 (seenL n l) i))
      rw [seenL_at l hi]
      simpa using hv
    · cases hv
set_option maxRecDepth 100000 in
set_option maxHeartbeats 4000000 in
theorem rseen_calls (w : World) (x : Since w) (N : Nat) (a : Option Addr) (l : List Ev) (cap : Nat) (hr : EvRow w a l) (hl : l.length ≤ 100000) (hN : N ≤ 256) :
    Calls Try.prog 35 #[.int .i64 N, .slice a l.length cap] x.w (NumsPost w (seenL N l)) := by
  have hfc := fun (y : Since w) (d s : Int) => find_calls w y a l cap d s hr (by omega)
  have Hfc := Lib.hid hfc
  clear hfc
  go_enter Try.func35, Try.ntmps35
  go_wp2_with fail
  go_loopw [5, 6] (fun v i wr => ∃ (k : Nat) (y : Since w), k ≤ N ∧ i = .int .i64 k ∧ wr = y.w ∧ wr.ownsRow w.heap.size 3 1 v k (seenV l k)) (fun _ i _ => N - (intOf i).toNat)
  case atStart => exact ⟨0, x, by omega, rfl, rfl, rfl, .inl ⟨rfl, rfl⟩⟩
  case round =>
    obtain ⟨k, y, hk, rfl, rfl, hown⟩ := hrel
    have Hown := Lib.hid hown
    clear hown
    by_cases hlt : k < N
    · have hk0 : (0 : Int) ≤ (k : Int) := by omega
      have hkN : (k : Int) < (N : Int) := by omega
      go_wp2_with fail
      go_loopw [7] (fun i wr => ∃ (c : Nat) (y2 : Since y.w), c ≤ seenN l (k : Int) ∧ i = .int .i64 c ∧ wr = y2.w) (fun i _ => seenN l (k : Int) - (intOf i).toNat)
      case atStart => exact ⟨0, Since.self _, by omega, rfl, rfl⟩
      case round =>
        obtain ⟨c, y2, hc, rfl, rfl⟩ := hrel
        have hsl := seen_le l (k : Int)
        have hsum : IntKind.i64.wrap ((c : Int) + 1) = (c : Int) + 1 := IntWalk.i64_in _ (by omega)
        have hc0 : (0 : Int) ≤ (c : Int) := by omega
        have hfh := findI_has l (k : Int) ((c : Int) + 1)
        have hcall : Calls Try.prog 41 #[.slice a l.length cap, .int .i64 (k : Int), .int .i64 ((c : Int) + 1)] y2.w fun o w' => o = .returned (.int .i64 (findI l (k : Int) ((c : Int) + 1))) ∧ ∃ z : Since y.w, w' = z.w :=
          find_calls y.w y2 a l cap (k : Int) ((c : Int) + 1) (Since.els hr y) (by omega)
        generalize findI l (k : Int) ((c : Int) + 1) = fi at *
        by_cases hcs : c < seenN l (k : Int)
        · rw [seen_all l (k : Int) c hcs] at hfh
          have hf0 : 0 ≤ fi := by simpa using hfh
          have hcl : (c : Int) < (l.length : Int) := by omega
          have Hcall := Lib.hid hcall
          clear hfh hcall
          go_wp2_with (go_at_call 41; refine Hcall.out.mono ?_; rintro _ _ ⟨rfl, y3, rfl⟩)
          go_roundw
          case rel => exact ⟨c + 1, y3, by omega, by go_num, rfl⟩
          case measure => simp [intOf]; omega
        · obtain rfl : c = seenN l (k : Int) := by omega
          rw [seen_next l (k : Int)] at hfh
          have hf0 : ¬ 0 ≤ fi := by simpa using hfh
          have hf1 : fi < 0 := by omega
          have hsv := Lib.hid (seenV_next l k)
          have Hcall := Lib.hid hcall
          clear hfh hcall
          rcases (by omega : (seenN l (k : Int) : Nat) < l.length ∨ ¬ (seenN l (k : Int) : Nat) < l.length) with hcl | hcl
          · have hcl' : ((seenN l (k : Int) : Nat) : Int) < (l.length : Int) := by omega
            go_upto_region 8 with (go_at_call 41; refine Hcall.out.mono ?_; rintro _ _ ⟨rfl, y3, rfl⟩)
            go_wp2_with (at_builtin; (refine wpList_append1 (w0 := w) ?hw rfl _ _ 23 rfl w.heap.size (Nat.le_refl _) ?hb 3 (.int .i64 0) 8 ints u5 k (seenV l k) rfl ?hown (.int .i64 (seenN l (k : Int))) rfl ⟨y3.w.heap.size, 0, none⟩ 1 rfl ?hc ?h63 ?hbytes ?_; rotate_right 1; intro v2 z2 hown2 _))
            case hw => obtain ⟨z, e⟩ := y.trans y3; rw [e]; exact z.alloc _
            case hb => have h1 := y.b.size; have h2 := y3.b.size; simp; omega
            case hown => exact own_to Hown.out (IsSince.alloc (IsSince.of y3) _)
            case hc => simp [go_sem]
            case h63 => unfold maxLen; omega
            case hbytes => omega
            rw [← hsv.out] at hown2
            have Hown2 := Lib.hid hown2
            clear hown2
            go_wp2_with fail
            go_roundw
            case rel => exact ⟨k + 1, z2, by omega, by go_num, rfl, Hown2.out⟩
            case measure => simp [intOf]; omega
          · have hcl' : ¬ ((seenN l (k : Int) : Nat) : Int) < (l.length : Int) := by omega
            go_upto_region 8 with (go_at_call 41; refine Hcall.out.mono ?_; rintro _ _ ⟨rfl, y3, rfl⟩)
            go_wp2_with (at_builtin; (refine wpList_append1 (w0 := w) ?hw rfl _ _ 23 rfl w.heap.size (Nat.le_refl _) ?hb 3 (.int .i64 0) 8 ints u5 k (seenV l k) rfl ?hown (.int .i64 (seenN l (k : Int))) rfl ⟨y2.w.heap.size, 0, none⟩ 1 rfl ?hc ?h63 ?hbytes ?_; rotate_right 1; intro v2 z2 hown2 _))
            case hw => obtain ⟨z, e⟩ := y.trans y2; rw [e]; exact z.alloc _
            case hb => have h1 := y.b.size; have h2 := y2.b.size; simp; omega
            case hown => exact own_to Hown.out (IsSince.alloc (IsSince.of y2) _)
            case h63 => unfold maxLen; omega
            case hbytes => omega
            rw [← hsv.out] at hown2
            have Hown2 := Lib.hid hown2
            clear hown2
            go_wp2_with fail
            go_roundw
            case rel => exact ⟨k + 1, z2, by omega, by go_num, rfl, Hown2.out⟩
            case measure => simp [intOf]; omega
    · obtain rfl : k = N := by omega
      obtain ⟨a2, c2, rfl, hc2, hrow⟩ := seenV_row Hown.out
      have hlen := seenL_length k l
      have Hrow := Lib.hid hrow
      clear hrow
      go_wp2_with fail
      go_ret
      exact ⟨a2, c2, y, ret_slice hlen.symm, rfl, by omega, Hrow.out⟩
end Go.Proofs.Ytcpfogbjbinjcaa
